/- Contracts that this law needs, part 2. -/
import Derived.Test.YtebgmdiejgcoiaaGreatZ1
namespace Go.Proofs.YtebgmdiejgcoiaaGreat
open Go.RowKit
set_option linter.unusedVariables false
set_option linter.unusedSimpArgs false
set_option maxRecDepth 100000
set_option maxHeartbeats 2000000

theorem ysTurned_c (c : Con) (c_r_heldV : Value) (w : World) (hl_c_r_heldV : Sl w c_r_heldV 2 (c.r.held.map pceCells)) (hkn : c.r.held.length ≤ 1048576)(hm : ∀ p ∈ c.r.held, p.text.size ≤ 1048576) (hsz : c.r.data.size ≤ 4611686018427387904) (B : Nat) (hB : B ≤ w.heap.size) : Calls Tryz.prog 79 #[.agg (conL c c_r_heldV).toArray] w fun e w' => XRs w w' e (α := Option Addr × Nat) (fun y => .agg (conL (turned c) (.slice y.1 ((turned c).r.held.length) y.2)).toArray) (fun y => [ownF B (.slice y.1 ((turned c).r.held.length) y.2) 2 ((turned c).r.held.map pceCells)]) := by
 obtain ⟨Acrh,Ccrh,hvcrh⟩ := hl_c_r_heldV.form
 rw [List.length_map] at hvcrh; subst hvcrh
 have hncrh := hl_c_r_heldV.len; rw [List.length_map] at hncrh
 have hqcrh := Sl.capLe hl_c_r_heldV
 have ht : conOk { c with state := turnState c,timer := 0 } = (conOk { c with state := turnState c,timer := 0,tries := 0 } && inB c.tries 0 3) := conOk_tries _
 refine x_callsA (args := [.agg (conL c (.slice Acrh c.r.held.length Ccrh)).toArray]) (fn := Tryz.f79) [slF (.slice Acrh c.r.held.length Ccrh) 2 (c.r.held.map pceCells)] Tryz.func79 rfl Tryz.ntmps79 rfl (by simp only [List.mem_cons,List.not_mem_nil,or_false,forall_eq_or_imp,forall_eq]; exact ⟨rfl,hl_c_r_heldV⟩) ?_
 refine kQ ?_
 refine kEF [1,2] ⟨[(1,.p 0 0),(2,.p 1 0)],[⟨44,conL c (.slice Acrh c.r.held.length Ccrh)⟩,⟨44,conZ⟩],[],[slF (.slice Acrh c.r.held.length Ccrh) 2 (c.r.held.map pceCells)]⟩ ?_
 refine kQ ?_
 refine kCS 1 [1,2,4] [(1,.p 0 0),(2,.p 1 0),(4,.v (.agg (conL c (.slice Acrh c.r.held.length Ccrh)).toArray))] 33 [.agg (conL c (.slice Acrh c.r.held.length Ccrh)).toArray] (some 5) rfl (xc_r fun ww hw hf => yl19Copy_c c (.slice Acrh c.r.held.length Ccrh) ww (hf _ m0) (by assumption) w.heap.size hw) ?_
 rintro ⟨v1a,v1c⟩
 refine kEF [1,2,3] ⟨[(1,.p 0 0),(2,.p 1 0),(3,.p 2 0)],[⟨44,conL c (.slice Acrh c.r.held.length Ccrh)⟩,⟨44,conZ⟩,⟨44,conL c (.slice v1a c.r.held.length v1c)⟩],[],[ownF w.heap.size (.slice v1a c.r.held.length v1c) 2 (c.r.held.map pceCells),slF (.slice Acrh c.r.held.length Ccrh) 2 (c.r.held.map pceCells)]⟩ ?_
 refine kQ ?_
 refine kCS 1 [1,2,3,6] [(1,.p 0 0),(2,.p 1 0),(3,.p 2 0),(6,.v (.agg (conL c (.slice Acrh c.r.held.length Ccrh)).toArray))] 125 [.agg (conL c (.slice Acrh c.r.held.length Ccrh)).toArray] (some 7) rfl (xc_b fun ww hf => yl21State_c c (.slice Acrh c.r.held.length Ccrh) ww (hf _ m1) ) ?_
 intro _
 refine kEF [1,2,3] ⟨[(1,.p 0 0),(2,.p 1 0),(3,.p 2 0)],[⟨44,conL c (.slice Acrh c.r.held.length Ccrh)⟩,⟨44,conZ⟩,⟨44,conL { c with state := (turnState c) } (.slice v1a c.r.held.length v1c)⟩],[],[ownF w.heap.size (.slice v1a c.r.held.length v1c) 2 (c.r.held.map pceCells),slF (.slice Acrh c.r.held.length Ccrh) 2 (c.r.held.map pceCells)]⟩ ?_
 refine kS ?_
 refine kS ?_
 refine xw_join ⟨[(1,.p 0 0),(2,.p 1 0),(3,.p 2 0),(37,.v (.bool ((!(conOk ({ c with state := (turnState c),timer := 0,tries := 0 }))) || ((!(inB c.timer 0 4)) || (!(inB c.tries 0 3))))))],[⟨44,conL c (.slice Acrh c.r.held.length Ccrh)⟩,⟨44,conZ⟩,⟨44,conL { c with state := (turnState c) } (.slice v1a c.r.held.length v1c)⟩],[],[ownF w.heap.size (.slice v1a c.r.held.length v1c) 2 (c.r.held.map pceCells),slF (.slice Acrh c.r.held.length Ccrh) 2 (c.r.held.map pceCells)]⟩ ?_ ?_
 refine kG ?_
 refine kOS 14 [1,2,3,10,12,14,16,18,20,22] [(1,.p 0 0),(2,.p 1 0),(3,.p 2 0),(10,.v (.agg (tupL c.t).toArray)),(12,.v (.int .i64 (turnState c))),(14,.v (.agg (sndL c.s).toArray)),(16,.v (.agg (rcvL c.r (.slice Acrh c.r.held.length Ccrh)).toArray)),(18,.v (.int .i64 c.window)),(20,.v (.int .i64 c.most)),(22,.v (.agg (optL c.o).toArray))] (.agg (conL { c with state := (turnState c),timer := 0,tries := 0 } (.slice Acrh c.r.held.length Ccrh)).toArray) rfl (fun _ _ _ ww hr => act_build [(0,.agg (tupL c.t).toArray),(1,.int .i64 (turnState c)),(2,.agg (sndL c.s).toArray),(3,.agg (rcvL c.r (.slice Acrh c.r.held.length Ccrh)).toArray),(4,.int .i64 c.window),(5,.int .i64 c.most),(6,.agg (optL c.o).toArray)] hr.1 rfl (by kernel_rfl) (by kernel_rfl) ww) ?_
 refine kCS 0 [1,2,3,23] [(1,.p 0 0),(2,.p 1 0),(3,.p 2 0),(23,.v (.agg (conL { c with state := (turnState c),timer := 0,tries := 0 } (.slice Acrh c.r.held.length Ccrh)).toArray))] 25 [.agg (conL { c with state := (turnState c),timer := 0,tries := 0 } (.slice Acrh c.r.held.length Ccrh)).toArray] (some 24) rfl (xc_b fun ww hf => ysConnOk_c ({ c with state := (turnState c),timer := 0,tries := 0 }) (.slice Acrh c.r.held.length Ccrh) ww (hf _ m1) (by assumption) (by omega)) ?_
 intro _
 refine kRS 2 [1,2,3,26] [(1,.p 0 0),(2,.p 1 0),(3,.p 2 0),(26,.v (.bool (!(conOk ({ c with state := (turnState c),timer := 0,tries := 0 })))))] ?_
 refine kP 26 (!(conOk ({ c with state := (turnState c),timer := 0,tries := 0 }))) (fun h2 => ?_) (fun h2 => ?_)
 have h2n := not_t h2
 refine kES [1,2,3,37] [(1,.p 0 0),(2,.p 1 0),(3,.p 2 0),(37,.v (.bool true))] ?_
 show Wk _ _
 try rw [h2]
 exact kF 3 0 [1,2,3,37]
 have h2n := not_f h2
 refine kCS 2 [1,2,3,26,28] [(1,.p 0 0),(2,.p 1 0),(3,.p 2 0),(26,.v (.bool false)),(28,.v (.int .i64 c.timer))] 67 [.int .i64 c.timer,.int .i64 0,.int .i64 4] (some 29) rfl (xc_s fun ww hf => l1In_c c.timer 0 4 ww ) ?_
 intro _
 refine kRS 3 [1,2,3,32] [(1,.p 0 0),(2,.p 1 0),(3,.p 2 0),(32,.v (.bool (!(inB c.timer 0 4))))] ?_
 refine kP 32 (!(inB c.timer 0 4)) (fun h3 => ?_) (fun h3 => ?_)
 have h3n := not_t h3
 have h3ni := inB_ff.1 (show inB c.timer 0 4 = false from by simpa using h3n)
 refine kES [1,2,3,37] [(1,.p 0 0),(2,.p 1 0),(3,.p 2 0),(37,.v (.bool true))] ?_
 show Wk _ _
 try rw [h2]
 try rw [h3]
 exact kF 3 0 [1,2,3,37]
 have h3n := not_f h3
 have h3ni := inB_tt.1 (show inB c.timer 0 4 = true from by simpa using h3n)
 refine kCS 2 [1,2,3,32,34] [(1,.p 0 0),(2,.p 1 0),(3,.p 2 0),(32,.v (.bool false)),(34,.v (.int .i64 c.tries))] 67 [.int .i64 c.tries,.int .i64 0,.int .i64 3] (some 35) rfl (xc_s fun ww hf => l1In_c c.tries 0 3 ww ) ?_
 intro _
 refine kES [1,2,3,37] [(1,.p 0 0),(2,.p 1 0),(3,.p 2 0),(37,.v (.bool (!(inB c.tries 0 3))))] ?_
 show Wk _ _
 try rw [h2]
 try rw [h3]
 exact kF 3 0 [1,2,3,37]
 refine kC ((!(conOk ({ c with state := (turnState c),timer := 0,tries := 0 }))) || ((!(inB c.timer 0 4)) || (!(inB c.tries 0 3)))) (fun h4 => ?_) (fun h4 => ?_)
 refine kQ ?_
 refine kCS 1 [2,38] [(2,.p 1 0),(38,.v (.agg (conL c (.slice Acrh c.r.held.length Ccrh)).toArray))] 33 [.agg (conL c (.slice Acrh c.r.held.length Ccrh)).toArray] (some 39) rfl (xc_r fun ww hw hf => yl19Copy_c c (.slice Acrh c.r.held.length Ccrh) ww (hf _ m1) (by assumption) w.heap.size hw) ?_
 rintro ⟨v5a,v5c⟩
 refine kEF [2] ⟨[(2,.p 1 0)],[⟨44,conL c (.slice Acrh c.r.held.length Ccrh)⟩,⟨44,conL c (.slice v5a c.r.held.length v5c)⟩,⟨44,conL { c with state := (turnState c) } (.slice v1a c.r.held.length v1c)⟩],[],[ownF w.heap.size (.slice v5a c.r.held.length v5c) 2 (c.r.held.map pceCells),ownF w.heap.size (.slice v1a c.r.held.length v1c) 2 (c.r.held.map pceCells),slF (.slice Acrh c.r.held.length Ccrh) 2 (c.r.held.map pceCells)]⟩ ?_
 refine kR ?_
 have hmod : turned c = c := by first | rfl | (simp [turned, *]; done) | grind [turned] | grind [turned,turnState]
 exact ⟨[.agg (conL c (.slice v5a c.r.held.length v5c)).toArray],by kernel_rfl,fun w' hb hf ha => by rw [hmod]; exact xo1 ((v5a,v5c)) rfl rfl (pO (hf _ m0) hB) hb⟩
 have h4l := or_l h4
 have h4ln := not_f h4l
 have h4r := or_r h4
 have h4rl := or_l h4r
 have h4rln := not_f h4rl
 have h4rlni := inB_tt.1 (show inB c.timer 0 4 = true from by simpa using h4rln)
 have h4rr := or_r h4r
 have h4rrn := not_f h4rr
 have h4rrni := inB_tt.1 (show inB c.tries 0 3 = true from by simpa using h4rrn)
 refine kK ?_
 refine kS ?_
 refine kQ ?_
 refine kES [2,3,44] [(2,.p 1 0),(3,.p 2 0),(44,.v (.bool ((turnState c) == c.state)))] ?_
 refine kC ((turnState c) == c.state) (fun h6 => ?_) (fun h6 => ?_)
 have h6p := eqT h6
 refine kQ ?_
 refine kEF [2] ⟨[(2,.p 1 0)],[⟨44,conL c (.slice Acrh c.r.held.length Ccrh)⟩,⟨44,conL { c with state := (turnState c) } (.slice v1a c.r.held.length v1c)⟩,⟨44,conL { c with state := (turnState c) } (.slice v1a c.r.held.length v1c)⟩],[],[ownF w.heap.size (.slice v1a c.r.held.length v1c) 2 (c.r.held.map pceCells),slF (.slice Acrh c.r.held.length Ccrh) 2 (c.r.held.map pceCells)]⟩ ?_
 refine kR ?_
 have hmod : turned c = ({ c with state := (turnState c) }) := by first | rfl | (simp [turned, *]; done) | grind [turned] | grind [turned,turnState]
 exact ⟨[.agg (conL { c with state := (turnState c) } (.slice v1a c.r.held.length v1c)).toArray],by kernel_rfl,fun w' hb hf ha => by rw [hmod]; exact xo1 ((v1a,v1c)) rfl rfl (pO (hf _ m0) hB) hb⟩
 have h6p := eqF h6
 refine kK ?_
 refine kS ?_
 refine kQ ?_
 refine kES [2,3,48] [(2,.p 1 0),(3,.p 2 0),(48,.v (.bool ((turnState c) == 7)))] ?_
 refine xw_join ⟨[(2,.p 1 0),(3,.p 2 0)],[⟨44,conL c (.slice Acrh c.r.held.length Ccrh)⟩,⟨44,conZ⟩,⟨44,conL { c with state := (turnState c),timer := if ((turnState c) == 7) = true then 4 else c.timer,tries := if ((turnState c) == 7) = true then 0 else c.tries } (.slice v1a c.r.held.length v1c)⟩],[],[ownF w.heap.size (.slice v1a c.r.held.length v1c) 2 (c.r.held.map pceCells),slF (.slice Acrh c.r.held.length Ccrh) 2 (c.r.held.map pceCells)]⟩ ?_ ?_
 refine kC ((turnState c) == 7) (fun h7 => ?_) (fun h7 => ?_)
 have h7p := eqT h7
 refine kQ ?_
 refine kEF [2,3] ⟨[(2,.p 1 0),(3,.p 2 0)],[⟨44,conL c (.slice Acrh c.r.held.length Ccrh)⟩,⟨44,conZ⟩,⟨44,conL { c with state := (turnState c),timer := 4 } (.slice v1a c.r.held.length v1c)⟩],[],[ownF w.heap.size (.slice v1a c.r.held.length v1c) 2 (c.r.held.map pceCells),slF (.slice Acrh c.r.held.length Ccrh) 2 (c.r.held.map pceCells)]⟩ ?_
 refine kG ?_
 refine kEF [2,3] ⟨[(2,.p 1 0),(3,.p 2 0)],[⟨44,conL c (.slice Acrh c.r.held.length Ccrh)⟩,⟨44,conZ⟩,⟨44,conL { c with state := (turnState c),timer := 4,tries := 0 } (.slice v1a c.r.held.length v1c)⟩],[],[ownF w.heap.size (.slice v1a c.r.held.length v1c) 2 (c.r.held.map pceCells),slF (.slice Acrh c.r.held.length Ccrh) 2 (c.r.held.map pceCells)]⟩ ?_
 show Wk _ _; rw [h7]; exact kF 3 0 [2,3]
 have h7p := eqF h7
 refine kK ?_
 show Wk _ _; rw [h7]; exact kF 3 0 [2,3]
 refine kS ?_
 refine kQ ?_
 refine kES [2,3,53] [(2,.p 1 0),(3,.p 2 0),(53,.v (.bool ((turnState c) == 8)))] ?_
 refine xw_join ⟨[(2,.p 1 0),(3,.p 2 0)],[⟨44,conL c (.slice Acrh c.r.held.length Ccrh)⟩,⟨44,conZ⟩,⟨44,conL { c with state := (turnState c),timer := if ((turnState c) == 8) = true then 0 else if ((turnState c) == 7) = true then 4 else c.timer,tries := if ((turnState c) == 8) = true then 0 else if ((turnState c) == 7) = true then 0 else c.tries } (.slice v1a c.r.held.length v1c)⟩],[],[ownF w.heap.size (.slice v1a c.r.held.length v1c) 2 (c.r.held.map pceCells),slF (.slice Acrh c.r.held.length Ccrh) 2 (c.r.held.map pceCells)]⟩ ?_ ?_
 refine kC ((turnState c) == 8) (fun h8 => ?_) (fun h8 => ?_)
 have h8p := eqT h8
 refine kQ ?_
 refine kEF [2,3] ⟨[(2,.p 1 0),(3,.p 2 0)],[⟨44,conL c (.slice Acrh c.r.held.length Ccrh)⟩,⟨44,conZ⟩,⟨44,conL { c with state := (turnState c),timer := 0,tries := if ((turnState c) == 7) = true then 0 else c.tries } (.slice v1a c.r.held.length v1c)⟩],[],[ownF w.heap.size (.slice v1a c.r.held.length v1c) 2 (c.r.held.map pceCells),slF (.slice Acrh c.r.held.length Ccrh) 2 (c.r.held.map pceCells)]⟩ ?_
 refine kG ?_
 refine kEF [2,3] ⟨[(2,.p 1 0),(3,.p 2 0)],[⟨44,conL c (.slice Acrh c.r.held.length Ccrh)⟩,⟨44,conZ⟩,⟨44,conL { c with state := (turnState c),timer := 0,tries := 0 } (.slice v1a c.r.held.length v1c)⟩],[],[ownF w.heap.size (.slice v1a c.r.held.length v1c) 2 (c.r.held.map pceCells),slF (.slice Acrh c.r.held.length Ccrh) 2 (c.r.held.map pceCells)]⟩ ?_
 show Wk _ _; rw [h8]; exact kF 3 0 [2,3]
 have h8p := eqF h8
 refine kK ?_
 show Wk _ _; rw [h8]; exact kF 3 0 [2,3]
 refine kQ ?_
 refine kEF [2] ⟨[(2,.p 1 0)],[⟨44,conL c (.slice Acrh c.r.held.length Ccrh)⟩,⟨44,conL { c with state := (turnState c),timer := if ((turnState c) == 8) = true then 0 else if ((turnState c) == 7) = true then 4 else c.timer,tries := if ((turnState c) == 8) = true then 0 else if ((turnState c) == 7) = true then 0 else c.tries } (.slice v1a c.r.held.length v1c)⟩,⟨44,conL { c with state := (turnState c),timer := if ((turnState c) == 8) = true then 0 else if ((turnState c) == 7) = true then 4 else c.timer,tries := if ((turnState c) == 8) = true then 0 else if ((turnState c) == 7) = true then 0 else c.tries } (.slice v1a c.r.held.length v1c)⟩],[],[ownF w.heap.size (.slice v1a c.r.held.length v1c) 2 (c.r.held.map pceCells),slF (.slice Acrh c.r.held.length Ccrh) 2 (c.r.held.map pceCells)]⟩ ?_
 refine kR ?_
 have hmod : turned c = ({ c with state := (turnState c),timer := if ((turnState c) == 8) = true then 0 else if ((turnState c) == 7) = true then 4 else c.timer,tries := if ((turnState c) == 8) = true then 0 else if ((turnState c) == 7) = true then 0 else c.tries }) := by first | rfl | (simp [turned, *]; done) | grind [turned] | grind [turned,turnState]
 exact ⟨[.agg (conL { c with state := (turnState c),timer := if ((turnState c) == 8) = true then 0 else if ((turnState c) == 7) = true then 4 else c.timer,tries := if ((turnState c) == 8) = true then 0 else if ((turnState c) == 7) = true then 0 else c.tries } (.slice v1a c.r.held.length v1c)).toArray],by kernel_rfl,fun w' hb hf ha => by rw [hmod]; exact xo1 ((v1a,v1c)) rfl rfl (pO (hf _ m0) hB) hb⟩
theorem yiTurned_c (c : Con) (c_r_heldV : Value) (w : World) (hl_c_r_heldV : Sl w c_r_heldV 2 (c.r.held.map pceCells)) (hkn : c.r.held.length ≤ 1048576)(hm : ∀ p ∈ c.r.held, p.text.size ≤ 1048576) (hsz : c.r.data.size ≤ 4611686018427387904) (B : Nat) (hB : B ≤ w.heap.size) : Calls Tryz.prog 73 #[.agg (conL c c_r_heldV).toArray] w fun e w' => XRs w w' e (α := Option Addr × Nat) (fun y => .agg (conL (turned c) (.slice y.1 ((turned c).r.held.length) y.2)).toArray) (fun y => [ownF B (.slice y.1 ((turned c).r.held.length) y.2) 2 ((turned c).r.held.map pceCells)]) := by
 obtain ⟨Acrh,Ccrh,hvcrh⟩ := hl_c_r_heldV.form
 rw [List.length_map] at hvcrh; subst hvcrh
 have hncrh := hl_c_r_heldV.len; rw [List.length_map] at hncrh
 have hqcrh := Sl.capLe hl_c_r_heldV
 have ht : conOk { c with state := turnState c,timer := 0 } = (conOk { c with state := turnState c,timer := 0,tries := 0 } && inB c.tries 0 3) := conOk_tries _
 refine x_callsA (args := [.agg (conL c (.slice Acrh c.r.held.length Ccrh)).toArray]) (fn := Tryz.f73) [slF (.slice Acrh c.r.held.length Ccrh) 2 (c.r.held.map pceCells)] Tryz.func73 rfl Tryz.ntmps73 rfl (by simp only [List.mem_cons,List.not_mem_nil,or_false,forall_eq_or_imp,forall_eq]; exact ⟨rfl,hl_c_r_heldV⟩) ?_
 refine kQ ?_
 refine kEF [1,2] ⟨[(1,.p 0 0),(2,.p 1 0)],[⟨44,conL c (.slice Acrh c.r.held.length Ccrh)⟩,⟨44,conZ⟩],[],[slF (.slice Acrh c.r.held.length Ccrh) 2 (c.r.held.map pceCells)]⟩ ?_
 refine kQ ?_
 refine kCS 1 [1,2,7] [(1,.p 0 0),(2,.p 1 0),(7,.v (.agg (conL c (.slice Acrh c.r.held.length Ccrh)).toArray))] 43 [.agg (conL c (.slice Acrh c.r.held.length Ccrh)).toArray] (some 8) rfl (xc_r fun ww hw hf => ycloneConn_c c (.slice Acrh c.r.held.length Ccrh) ww (hf _ m0) (by assumption) w.heap.size hw) ?_
 rintro ⟨v1a,v1c⟩
 refine kEF [1,2,3] ⟨[(1,.p 0 0),(2,.p 1 0),(3,.p 2 0)],[⟨44,conL c (.slice Acrh c.r.held.length Ccrh)⟩,⟨44,conZ⟩,⟨44,conL c (.slice v1a c.r.held.length v1c)⟩],[],[ownF w.heap.size (.slice v1a c.r.held.length v1c) 2 (c.r.held.map pceCells),slF (.slice Acrh c.r.held.length Ccrh) 2 (c.r.held.map pceCells)]⟩ ?_
 refine kS ?_
 refine kS ?_
 refine xe_region [] (by kernel_rfl) (fun ρ σ => ?_)
 refine kTS [0,1,2,3,4,5,6,7] [5,4,1,2,3] 0 [(5,.v (.bool c.r.done)),(4,.v (.bool c.s.done)),(1,.p 0 0),(2,.p 1 0),(3,.p 2 0)] ?_
 refine kZ ?_
 refine xw_block ?_
 refine kS ?_
 refine xw_join ⟨[(1,.p 0 0),(2,.p 1 0),(3,.p 2 0),(4,.v (.bool c.s.done)),(5,.v (.bool c.r.done)),(16,.v (.bool ((c.state == 1) && c.r.done)))],[⟨44,conL c (.slice Acrh c.r.held.length Ccrh)⟩,⟨44,conZ⟩,⟨44,conL c (.slice v1a c.r.held.length v1c)⟩],[],[ownF w.heap.size (.slice v1a c.r.held.length v1c) 2 (c.r.held.map pceCells),slF (.slice Acrh c.r.held.length Ccrh) 2 (c.r.held.map pceCells)]⟩ ?_ ?_
 refine kG ?_
 refine kRS 4 [1,2,3,4,5,20] [(1,.p 0 0),(2,.p 1 0),(3,.p 2 0),(4,.v (.bool c.s.done)),(5,.v (.bool c.r.done)),(20,.v (.bool (c.state == 1)))] ?_
 refine kP 20 (c.state == 1) (fun h2 => ?_) (fun h2 => ?_)
 have h2p := eqT h2
 refine kES [1,2,3,4,5,16] [(1,.p 0 0),(2,.p 1 0),(3,.p 2 0),(4,.v (.bool c.s.done)),(5,.v (.bool c.r.done)),(16,.v (.bool c.r.done))] ?_
 show Wk _ _
 try rw [h2]
 exact kF 3 0 [1,2,3,4,5,16]
 have h2p := eqF h2
 refine kES [1,2,3,4,5,16] [(1,.p 0 0),(2,.p 1 0),(3,.p 2 0),(4,.v (.bool c.s.done)),(5,.v (.bool c.r.done)),(16,.v (.bool false))] ?_
 show Wk _ _
 try rw [h2]
 exact kF 3 0 [1,2,3,4,5,16]
 refine kC ((c.state == 1) && c.r.done) (fun h3 => ?_) (fun h3 => ?_)
 have h3l := and_l h3
 have h3lp := eqT h3l
 have h3r := and_r h3
 refine kG ?_
 refine kEF [1,2,3] ⟨[(1,.p 0 0),(2,.p 1 0),(3,.p 2 0)],[⟨44,conL c (.slice Acrh c.r.held.length Ccrh)⟩,⟨44,conZ⟩,⟨44,conL { c with state := 4 } (.slice v1a c.r.held.length v1c)⟩],[],[ownF w.heap.size (.slice v1a c.r.held.length v1c) 2 (c.r.held.map pceCells),slF (.slice Acrh c.r.held.length Ccrh) 2 (c.r.held.map pceCells)]⟩ ?_
 refine kQ ?_
 refine kEF [1,2,3,6] ⟨[(1,.p 0 0),(2,.p 1 0),(3,.p 2 0),(6,.p 3 0)],[⟨44,conL c (.slice Acrh c.r.held.length Ccrh)⟩,⟨44,conZ⟩,⟨44,conL { c with state := 4 } (.slice v1a c.r.held.length v1c)⟩,⟨44,conL { c with state := 4 } (.slice v1a c.r.held.length v1c)⟩],[],[ownF w.heap.size (.slice v1a c.r.held.length v1c) 2 (c.r.held.map pceCells),slF (.slice Acrh c.r.held.length Ccrh) 2 (c.r.held.map pceCells)]⟩ ?_
 refine kQ ?_
 refine kEF [1,2,3,6] ⟨[(1,.p 0 0),(2,.p 1 0),(3,.p 2 0),(6,.p 3 0)],[⟨44,conL c (.slice Acrh c.r.held.length Ccrh)⟩,⟨44,conZ⟩,⟨44,conL { c with state := 4 } (.slice v1a c.r.held.length v1c)⟩,⟨44,conL { c with state := 4,timer := 0 } (.slice v1a c.r.held.length v1c)⟩],[],[ownF w.heap.size (.slice v1a c.r.held.length v1c) 2 (c.r.held.map pceCells),slF (.slice Acrh c.r.held.length Ccrh) 2 (c.r.held.map pceCells)]⟩ ?_
 refine kS ?_
 refine kS ?_
 refine xw_join ⟨[(1,.p 0 0),(2,.p 1 0),(3,.p 2 0),(85,.v (.bool ((!(conOk ({ c with state := 4,timer := 0 }))) || (!(inB c.timer 0 4)))))],[⟨44,conL c (.slice Acrh c.r.held.length Ccrh)⟩,⟨44,conZ⟩,⟨44,conL { c with state := 4 } (.slice v1a c.r.held.length v1c)⟩,⟨44,conL { c with state := 4,timer := 0 } (.slice v1a c.r.held.length v1c)⟩],[],[ownF w.heap.size (.slice v1a c.r.held.length v1c) 2 (c.r.held.map pceCells),slF (.slice Acrh c.r.held.length Ccrh) 2 (c.r.held.map pceCells)]⟩ ?_ ?_
 refine kG ?_
 refine kCS 1 [1,2,3,77] [(1,.p 0 0),(2,.p 1 0),(3,.p 2 0),(77,.v (.agg (conL { c with state := 4,timer := 0 } (.slice v1a c.r.held.length v1c)).toArray))] 24 [.agg (conL { c with state := 4,timer := 0 } (.slice v1a c.r.held.length v1c)).toArray] (some 78) rfl (xc_b fun ww hf => yiConnOk_c ({ c with state := 4,timer := 0 }) (.slice v1a c.r.held.length v1c) ww (Own.sl (hf _ m0)) (by assumption) (by omega)) ?_
 intro _
 refine kRS 2 [1,2,3,80] [(1,.p 0 0),(2,.p 1 0),(3,.p 2 0),(80,.v (.bool (!(conOk ({ c with state := 4,timer := 0 })))))] ?_
 refine kP 80 (!(conOk ({ c with state := 4,timer := 0 }))) (fun h4 => ?_) (fun h4 => ?_)
 have h4n := not_t h4
 refine kES [1,2,3,85] [(1,.p 0 0),(2,.p 1 0),(3,.p 2 0),(85,.v (.bool true))] ?_
 show Wk _ _
 try rw [h4]
 exact kF 4 0 [1,2,3,85]
 have h4n := not_f h4
 refine kCS 2 [1,2,3,80,82] [(1,.p 0 0),(2,.p 1 0),(3,.p 2 0),(80,.v (.bool false)),(82,.v (.int .i64 c.timer))] 62 [.int .i64 c.timer,.int .i64 0,.int .i64 4] (some 83) rfl (xc_s fun ww hf => within_c c.timer 0 4 ww ) ?_
 intro _
 refine kES [1,2,3,85] [(1,.p 0 0),(2,.p 1 0),(3,.p 2 0),(85,.v (.bool (!(inB c.timer 0 4))))] ?_
 show Wk _ _
 try rw [h4]
 exact kF 4 0 [1,2,3,85]
 refine kC ((!(conOk ({ c with state := 4,timer := 0 }))) || (!(inB c.timer 0 4))) (fun h5 => ?_) (fun h5 => ?_)
 refine kQ ?_
 refine kCS 1 [2,86] [(2,.p 1 0),(86,.v (.agg (conL c (.slice Acrh c.r.held.length Ccrh)).toArray))] 43 [.agg (conL c (.slice Acrh c.r.held.length Ccrh)).toArray] (some 87) rfl (xc_r fun ww hw hf => ycloneConn_c c (.slice Acrh c.r.held.length Ccrh) ww (hf _ m1) (by assumption) w.heap.size hw) ?_
 rintro ⟨v6a,v6c⟩
 refine kEF [2] ⟨[(2,.p 1 0)],[⟨44,conL c (.slice Acrh c.r.held.length Ccrh)⟩,⟨44,conL c (.slice v6a c.r.held.length v6c)⟩,⟨44,conL { c with state := 4 } (.slice v1a c.r.held.length v1c)⟩,⟨44,conL { c with state := 4,timer := 0 } (.slice v1a c.r.held.length v1c)⟩],[],[ownF w.heap.size (.slice v6a c.r.held.length v6c) 2 (c.r.held.map pceCells),ownF w.heap.size (.slice v1a c.r.held.length v1c) 2 (c.r.held.map pceCells),slF (.slice Acrh c.r.held.length Ccrh) 2 (c.r.held.map pceCells)]⟩ ?_
 refine kR ?_
 have hmod : turned c = c := by first | rfl | (simp [turned, *]; done) | grind [turned] | grind [turned,turnState]
 exact ⟨[.agg (conL c (.slice v6a c.r.held.length v6c)).toArray],by kernel_rfl,fun w' hb hf ha => by rw [hmod]; exact xo1 ((v6a,v6c)) rfl rfl (pO (hf _ m0) hB) hb⟩
 have h5l := or_l h5
 have h5ln := not_f h5l
 have h5r := or_r h5
 have h5rn := not_f h5r
 have h5rni := inB_tt.1 (show inB c.timer 0 4 = true from by simpa using h5rn)
 refine kK ?_
 refine kS ?_
 refine kQ ?_
 refine kES [2,3,89] [(2,.p 1 0),(3,.p 2 0),(89,.v (.int .i64 4))] ?_
 refine xw_block ?_
 refine kQ ?_
 refine kES [2,3,89,90] [(2,.p 1 0),(3,.p 2 0),(89,.v (.int .i64 4)),(90,.v (.bool false))] ?_
 refine kN ?_
 refine kQ ?_
 refine kES [2,3,94] [(2,.p 1 0),(3,.p 2 0),(94,.v (.bool false))] ?_
 refine kN ?_
 refine kK ?_
 refine kQ ?_
 refine kEF [2] ⟨[(2,.p 1 0)],[⟨44,conL c (.slice Acrh c.r.held.length Ccrh)⟩,⟨44,conL { c with state := 4 } (.slice v1a c.r.held.length v1c)⟩,⟨44,conL { c with state := 4 } (.slice v1a c.r.held.length v1c)⟩,⟨44,conL { c with state := 4,timer := 0 } (.slice v1a c.r.held.length v1c)⟩],[],[ownF w.heap.size (.slice v1a c.r.held.length v1c) 2 (c.r.held.map pceCells),slF (.slice Acrh c.r.held.length Ccrh) 2 (c.r.held.map pceCells)]⟩ ?_
 refine kR ?_
 have hmod : turned c = ({ c with state := 4 }) := by first | rfl | (simp [turned, *]; done) | grind [turned] | grind [turned,turnState]
 exact ⟨[.agg (conL { c with state := 4 } (.slice v1a c.r.held.length v1c)).toArray],by kernel_rfl,fun w' hb hf ha => by rw [hmod]; exact xo1 ((v1a,v1c)) rfl rfl (pO (hf _ m0) hB) hb⟩
 refine kS ?_
 refine xw_join ⟨[(1,.p 0 0),(2,.p 1 0),(3,.p 2 0),(4,.v (.bool c.s.done)),(5,.v (.bool c.r.done)),(24,.v (.bool ((c.state == 2) && (c.s.done && c.r.done))))],[⟨44,conL c (.slice Acrh c.r.held.length Ccrh)⟩,⟨44,conZ⟩,⟨44,conL c (.slice v1a c.r.held.length v1c)⟩],[],[ownF w.heap.size (.slice v1a c.r.held.length v1c) 2 (c.r.held.map pceCells),slF (.slice Acrh c.r.held.length Ccrh) 2 (c.r.held.map pceCells)]⟩ ?_ ?_
 refine kG ?_
 refine kRS 4 [1,2,3,4,5,28] [(1,.p 0 0),(2,.p 1 0),(3,.p 2 0),(4,.v (.bool c.s.done)),(5,.v (.bool c.r.done)),(28,.v (.bool (c.state == 2)))] ?_
 refine kP 28 (c.state == 2) (fun h7 => ?_) (fun h7 => ?_)
 have h7p := eqT h7
 refine kRS 3 [1,2,3,4,5,31] [(1,.p 0 0),(2,.p 1 0),(3,.p 2 0),(4,.v (.bool c.s.done)),(5,.v (.bool c.r.done)),(31,.v (.bool c.s.done))] ?_
 refine kP 31 (c.s.done) (fun h8 => ?_) (fun h8 => ?_)
 refine kES [1,2,3,4,5,24] [(1,.p 0 0),(2,.p 1 0),(3,.p 2 0),(4,.v (.bool c.s.done)),(5,.v (.bool c.r.done)),(24,.v (.bool c.r.done))] ?_
 show Wk _ _
 try rw [h7]
 try rw [h8]
 exact kF 3 0 [1,2,3,4,5,24]
 refine kES [1,2,3,4,5,24] [(1,.p 0 0),(2,.p 1 0),(3,.p 2 0),(4,.v (.bool c.s.done)),(5,.v (.bool c.r.done)),(24,.v (.bool false))] ?_
 show Wk _ _
 try rw [h7]
 try rw [h8]
 exact kF 3 0 [1,2,3,4,5,24]
 have h7p := eqF h7
 refine kES [1,2,3,4,5,24] [(1,.p 0 0),(2,.p 1 0),(3,.p 2 0),(4,.v (.bool c.s.done)),(5,.v (.bool c.r.done)),(24,.v (.bool false))] ?_
 show Wk _ _
 try rw [h7]
 exact kF 3 0 [1,2,3,4,5,24]
 refine kC ((c.state == 2) && (c.s.done && c.r.done)) (fun h9 => ?_) (fun h9 => ?_)
 have h9l := and_l h9
 have h9lp := eqT h9l
 have h9r := and_r h9
 have h9rl := and_l h9r
 have h9rr := and_r h9r
 refine kG ?_
 refine kEF [1,2,3] ⟨[(1,.p 0 0),(2,.p 1 0),(3,.p 2 0)],[⟨44,conL c (.slice Acrh c.r.held.length Ccrh)⟩,⟨44,conZ⟩,⟨44,conL { c with state := 7 } (.slice v1a c.r.held.length v1c)⟩],[],[ownF w.heap.size (.slice v1a c.r.held.length v1c) 2 (c.r.held.map pceCells),slF (.slice Acrh c.r.held.length Ccrh) 2 (c.r.held.map pceCells)]⟩ ?_
 refine kQ ?_
 refine kEF [1,2,3,6] ⟨[(1,.p 0 0),(2,.p 1 0),(3,.p 2 0),(6,.p 3 0)],[⟨44,conL c (.slice Acrh c.r.held.length Ccrh)⟩,⟨44,conZ⟩,⟨44,conL { c with state := 7 } (.slice v1a c.r.held.length v1c)⟩,⟨44,conL { c with state := 7 } (.slice v1a c.r.held.length v1c)⟩],[],[ownF w.heap.size (.slice v1a c.r.held.length v1c) 2 (c.r.held.map pceCells),slF (.slice Acrh c.r.held.length Ccrh) 2 (c.r.held.map pceCells)]⟩ ?_
 refine kQ ?_
 refine kEF [1,2,3,6] ⟨[(1,.p 0 0),(2,.p 1 0),(3,.p 2 0),(6,.p 3 0)],[⟨44,conL c (.slice Acrh c.r.held.length Ccrh)⟩,⟨44,conZ⟩,⟨44,conL { c with state := 7 } (.slice v1a c.r.held.length v1c)⟩,⟨44,conL { c with state := 7,timer := 0 } (.slice v1a c.r.held.length v1c)⟩],[],[ownF w.heap.size (.slice v1a c.r.held.length v1c) 2 (c.r.held.map pceCells),slF (.slice Acrh c.r.held.length Ccrh) 2 (c.r.held.map pceCells)]⟩ ?_
 refine kS ?_
 refine kS ?_
 refine xw_join ⟨[(1,.p 0 0),(2,.p 1 0),(3,.p 2 0),(85,.v (.bool ((!(conOk ({ c with state := 7,timer := 0 }))) || (!(inB c.timer 0 4)))))],[⟨44,conL c (.slice Acrh c.r.held.length Ccrh)⟩,⟨44,conZ⟩,⟨44,conL { c with state := 7 } (.slice v1a c.r.held.length v1c)⟩,⟨44,conL { c with state := 7,timer := 0 } (.slice v1a c.r.held.length v1c)⟩],[],[ownF w.heap.size (.slice v1a c.r.held.length v1c) 2 (c.r.held.map pceCells),slF (.slice Acrh c.r.held.length Ccrh) 2 (c.r.held.map pceCells)]⟩ ?_ ?_
 refine kG ?_
 refine kCS 1 [1,2,3,77] [(1,.p 0 0),(2,.p 1 0),(3,.p 2 0),(77,.v (.agg (conL { c with state := 7,timer := 0 } (.slice v1a c.r.held.length v1c)).toArray))] 24 [.agg (conL { c with state := 7,timer := 0 } (.slice v1a c.r.held.length v1c)).toArray] (some 78) rfl (xc_b fun ww hf => yiConnOk_c ({ c with state := 7,timer := 0 }) (.slice v1a c.r.held.length v1c) ww (Own.sl (hf _ m0)) (by assumption) (by omega)) ?_
 intro _
 refine kRS 2 [1,2,3,80] [(1,.p 0 0),(2,.p 1 0),(3,.p 2 0),(80,.v (.bool (!(conOk ({ c with state := 7,timer := 0 })))))] ?_
 refine kP 80 (!(conOk ({ c with state := 7,timer := 0 }))) (fun h10 => ?_) (fun h10 => ?_)
 have h10n := not_t h10
 refine kES [1,2,3,85] [(1,.p 0 0),(2,.p 1 0),(3,.p 2 0),(85,.v (.bool true))] ?_
 show Wk _ _
 try rw [h10]
 exact kF 4 0 [1,2,3,85]
 have h10n := not_f h10
 refine kCS 2 [1,2,3,80,82] [(1,.p 0 0),(2,.p 1 0),(3,.p 2 0),(80,.v (.bool false)),(82,.v (.int .i64 c.timer))] 62 [.int .i64 c.timer,.int .i64 0,.int .i64 4] (some 83) rfl (xc_s fun ww hf => within_c c.timer 0 4 ww ) ?_
 intro _
 refine kES [1,2,3,85] [(1,.p 0 0),(2,.p 1 0),(3,.p 2 0),(85,.v (.bool (!(inB c.timer 0 4))))] ?_
 show Wk _ _
 try rw [h10]
 exact kF 4 0 [1,2,3,85]
 refine kC ((!(conOk ({ c with state := 7,timer := 0 }))) || (!(inB c.timer 0 4))) (fun h11 => ?_) (fun h11 => ?_)
 refine kQ ?_
 refine kCS 1 [2,86] [(2,.p 1 0),(86,.v (.agg (conL c (.slice Acrh c.r.held.length Ccrh)).toArray))] 43 [.agg (conL c (.slice Acrh c.r.held.length Ccrh)).toArray] (some 87) rfl (xc_r fun ww hw hf => ycloneConn_c c (.slice Acrh c.r.held.length Ccrh) ww (hf _ m1) (by assumption) w.heap.size hw) ?_
 rintro ⟨v12a,v12c⟩
 refine kEF [2] ⟨[(2,.p 1 0)],[⟨44,conL c (.slice Acrh c.r.held.length Ccrh)⟩,⟨44,conL c (.slice v12a c.r.held.length v12c)⟩,⟨44,conL { c with state := 7 } (.slice v1a c.r.held.length v1c)⟩,⟨44,conL { c with state := 7,timer := 0 } (.slice v1a c.r.held.length v1c)⟩],[],[ownF w.heap.size (.slice v12a c.r.held.length v12c) 2 (c.r.held.map pceCells),ownF w.heap.size (.slice v1a c.r.held.length v1c) 2 (c.r.held.map pceCells),slF (.slice Acrh c.r.held.length Ccrh) 2 (c.r.held.map pceCells)]⟩ ?_
 refine kR ?_
 have hmod : turned c = c := by first | rfl | (simp [turned, *]; done) | grind [turned] | grind [turned,turnState]
 exact ⟨[.agg (conL c (.slice v12a c.r.held.length v12c)).toArray],by kernel_rfl,fun w' hb hf ha => by rw [hmod]; exact xo1 ((v12a,v12c)) rfl rfl (pO (hf _ m0) hB) hb⟩
 have h11l := or_l h11
 have h11ln := not_f h11l
 have h11r := or_r h11
 have h11rn := not_f h11r
 have h11rni := inB_tt.1 (show inB c.timer 0 4 = true from by simpa using h11rn)
 refine kK ?_
 refine kS ?_
 refine kQ ?_
 refine kES [2,3,89] [(2,.p 1 0),(3,.p 2 0),(89,.v (.int .i64 7))] ?_
 refine xw_block ?_
 refine kQ ?_
 refine kES [2,3,89,90] [(2,.p 1 0),(3,.p 2 0),(89,.v (.int .i64 7)),(90,.v (.bool true))] ?_
 refine kT ?_
 refine kG ?_
 refine kEF [2,3] ⟨[(2,.p 1 0),(3,.p 2 0)],[⟨44,conL c (.slice Acrh c.r.held.length Ccrh)⟩,⟨44,conZ⟩,⟨44,conL { c with state := 7,timer := 4,tries := 0 } (.slice v1a c.r.held.length v1c)⟩,⟨44,conL { c with state := 7,timer := 0 } (.slice v1a c.r.held.length v1c)⟩],[],[ownF w.heap.size (.slice v1a c.r.held.length v1c) 2 (c.r.held.map pceCells),slF (.slice Acrh c.r.held.length Ccrh) 2 (c.r.held.map pceCells)]⟩ ?_
 refine kQ ?_
 refine kEF [2] ⟨[(2,.p 1 0)],[⟨44,conL c (.slice Acrh c.r.held.length Ccrh)⟩,⟨44,conL { c with state := 7,timer := 4,tries := 0 } (.slice v1a c.r.held.length v1c)⟩,⟨44,conL { c with state := 7,timer := 4,tries := 0 } (.slice v1a c.r.held.length v1c)⟩,⟨44,conL { c with state := 7,timer := 0 } (.slice v1a c.r.held.length v1c)⟩],[],[ownF w.heap.size (.slice v1a c.r.held.length v1c) 2 (c.r.held.map pceCells),slF (.slice Acrh c.r.held.length Ccrh) 2 (c.r.held.map pceCells)]⟩ ?_
 refine kR ?_
 have hmod : turned c = ({ c with state := 7,timer := 4,tries := 0 }) := by first | rfl | (simp [turned, *]; done) | grind [turned] | grind [turned,turnState]
 exact ⟨[.agg (conL { c with state := 7,timer := 4,tries := 0 } (.slice v1a c.r.held.length v1c)).toArray],by kernel_rfl,fun w' hb hf ha => by rw [hmod]; exact xo1 ((v1a,v1c)) rfl rfl (pO (hf _ m0) hB) hb⟩
 refine kS ?_
 refine xw_join ⟨[(1,.p 0 0),(2,.p 1 0),(3,.p 2 0),(4,.v (.bool c.s.done)),(5,.v (.bool c.r.done)),(35,.v (.bool ((c.state == 2) && c.s.done)))],[⟨44,conL c (.slice Acrh c.r.held.length Ccrh)⟩,⟨44,conZ⟩,⟨44,conL c (.slice v1a c.r.held.length v1c)⟩],[],[ownF w.heap.size (.slice v1a c.r.held.length v1c) 2 (c.r.held.map pceCells),slF (.slice Acrh c.r.held.length Ccrh) 2 (c.r.held.map pceCells)]⟩ ?_ ?_
 refine kG ?_
 refine kRS 4 [1,2,3,4,5,39] [(1,.p 0 0),(2,.p 1 0),(3,.p 2 0),(4,.v (.bool c.s.done)),(5,.v (.bool c.r.done)),(39,.v (.bool (c.state == 2)))] ?_
 refine kP 39 (c.state == 2) (fun h13 => ?_) (fun h13 => ?_)
 have h13p := eqT h13
 refine kES [1,2,3,4,5,35] [(1,.p 0 0),(2,.p 1 0),(3,.p 2 0),(4,.v (.bool c.s.done)),(5,.v (.bool c.r.done)),(35,.v (.bool c.s.done))] ?_
 show Wk _ _
 try rw [h13]
 exact kF 3 0 [1,2,3,4,5,35]
 have h13p := eqF h13
 refine kES [1,2,3,4,5,35] [(1,.p 0 0),(2,.p 1 0),(3,.p 2 0),(4,.v (.bool c.s.done)),(5,.v (.bool c.r.done)),(35,.v (.bool false))] ?_
 show Wk _ _
 try rw [h13]
 exact kF 3 0 [1,2,3,4,5,35]
 refine kC ((c.state == 2) && c.s.done) (fun h14 => ?_) (fun h14 => ?_)
 have h14l := and_l h14
 have h14lp := eqT h14l
 have h14r := and_r h14
 refine kG ?_
 refine kEF [1,2,3] ⟨[(1,.p 0 0),(2,.p 1 0),(3,.p 2 0)],[⟨44,conL c (.slice Acrh c.r.held.length Ccrh)⟩,⟨44,conZ⟩,⟨44,conL { c with state := 3 } (.slice v1a c.r.held.length v1c)⟩],[],[ownF w.heap.size (.slice v1a c.r.held.length v1c) 2 (c.r.held.map pceCells),slF (.slice Acrh c.r.held.length Ccrh) 2 (c.r.held.map pceCells)]⟩ ?_
 refine kQ ?_
 refine kEF [1,2,3,6] ⟨[(1,.p 0 0),(2,.p 1 0),(3,.p 2 0),(6,.p 3 0)],[⟨44,conL c (.slice Acrh c.r.held.length Ccrh)⟩,⟨44,conZ⟩,⟨44,conL { c with state := 3 } (.slice v1a c.r.held.length v1c)⟩,⟨44,conL { c with state := 3 } (.slice v1a c.r.held.length v1c)⟩],[],[ownF w.heap.size (.slice v1a c.r.held.length v1c) 2 (c.r.held.map pceCells),slF (.slice Acrh c.r.held.length Ccrh) 2 (c.r.held.map pceCells)]⟩ ?_
 refine kQ ?_
 refine kEF [1,2,3,6] ⟨[(1,.p 0 0),(2,.p 1 0),(3,.p 2 0),(6,.p 3 0)],[⟨44,conL c (.slice Acrh c.r.held.length Ccrh)⟩,⟨44,conZ⟩,⟨44,conL { c with state := 3 } (.slice v1a c.r.held.length v1c)⟩,⟨44,conL { c with state := 3,timer := 0 } (.slice v1a c.r.held.length v1c)⟩],[],[ownF w.heap.size (.slice v1a c.r.held.length v1c) 2 (c.r.held.map pceCells),slF (.slice Acrh c.r.held.length Ccrh) 2 (c.r.held.map pceCells)]⟩ ?_
 refine kS ?_
 refine kS ?_
 refine xw_join ⟨[(1,.p 0 0),(2,.p 1 0),(3,.p 2 0),(85,.v (.bool ((!(conOk ({ c with state := 3,timer := 0 }))) || (!(inB c.timer 0 4)))))],[⟨44,conL c (.slice Acrh c.r.held.length Ccrh)⟩,⟨44,conZ⟩,⟨44,conL { c with state := 3 } (.slice v1a c.r.held.length v1c)⟩,⟨44,conL { c with state := 3,timer := 0 } (.slice v1a c.r.held.length v1c)⟩],[],[ownF w.heap.size (.slice v1a c.r.held.length v1c) 2 (c.r.held.map pceCells),slF (.slice Acrh c.r.held.length Ccrh) 2 (c.r.held.map pceCells)]⟩ ?_ ?_
 refine kG ?_
 refine kCS 1 [1,2,3,77] [(1,.p 0 0),(2,.p 1 0),(3,.p 2 0),(77,.v (.agg (conL { c with state := 3,timer := 0 } (.slice v1a c.r.held.length v1c)).toArray))] 24 [.agg (conL { c with state := 3,timer := 0 } (.slice v1a c.r.held.length v1c)).toArray] (some 78) rfl (xc_b fun ww hf => yiConnOk_c ({ c with state := 3,timer := 0 }) (.slice v1a c.r.held.length v1c) ww (Own.sl (hf _ m0)) (by assumption) (by omega)) ?_
 intro _
 refine kRS 2 [1,2,3,80] [(1,.p 0 0),(2,.p 1 0),(3,.p 2 0),(80,.v (.bool (!(conOk ({ c with state := 3,timer := 0 })))))] ?_
 refine kP 80 (!(conOk ({ c with state := 3,timer := 0 }))) (fun h15 => ?_) (fun h15 => ?_)
 have h15n := not_t h15
 refine kES [1,2,3,85] [(1,.p 0 0),(2,.p 1 0),(3,.p 2 0),(85,.v (.bool true))] ?_
 show Wk _ _
 try rw [h15]
 exact kF 4 0 [1,2,3,85]
 have h15n := not_f h15
 refine kCS 2 [1,2,3,80,82] [(1,.p 0 0),(2,.p 1 0),(3,.p 2 0),(80,.v (.bool false)),(82,.v (.int .i64 c.timer))] 62 [.int .i64 c.timer,.int .i64 0,.int .i64 4] (some 83) rfl (xc_s fun ww hf => within_c c.timer 0 4 ww ) ?_
 intro _
 refine kES [1,2,3,85] [(1,.p 0 0),(2,.p 1 0),(3,.p 2 0),(85,.v (.bool (!(inB c.timer 0 4))))] ?_
 show Wk _ _
 try rw [h15]
 exact kF 4 0 [1,2,3,85]
 refine kC ((!(conOk ({ c with state := 3,timer := 0 }))) || (!(inB c.timer 0 4))) (fun h16 => ?_) (fun h16 => ?_)
 refine kQ ?_
 refine kCS 1 [2,86] [(2,.p 1 0),(86,.v (.agg (conL c (.slice Acrh c.r.held.length Ccrh)).toArray))] 43 [.agg (conL c (.slice Acrh c.r.held.length Ccrh)).toArray] (some 87) rfl (xc_r fun ww hw hf => ycloneConn_c c (.slice Acrh c.r.held.length Ccrh) ww (hf _ m1) (by assumption) w.heap.size hw) ?_
 rintro ⟨v17a,v17c⟩
 refine kEF [2] ⟨[(2,.p 1 0)],[⟨44,conL c (.slice Acrh c.r.held.length Ccrh)⟩,⟨44,conL c (.slice v17a c.r.held.length v17c)⟩,⟨44,conL { c with state := 3 } (.slice v1a c.r.held.length v1c)⟩,⟨44,conL { c with state := 3,timer := 0 } (.slice v1a c.r.held.length v1c)⟩],[],[ownF w.heap.size (.slice v17a c.r.held.length v17c) 2 (c.r.held.map pceCells),ownF w.heap.size (.slice v1a c.r.held.length v1c) 2 (c.r.held.map pceCells),slF (.slice Acrh c.r.held.length Ccrh) 2 (c.r.held.map pceCells)]⟩ ?_
 refine kR ?_
 have hmod : turned c = c := by first | rfl | (simp [turned, *]; done) | grind [turned] | grind [turned,turnState]
 exact ⟨[.agg (conL c (.slice v17a c.r.held.length v17c)).toArray],by kernel_rfl,fun w' hb hf ha => by rw [hmod]; exact xo1 ((v17a,v17c)) rfl rfl (pO (hf _ m0) hB) hb⟩
 have h16l := or_l h16
 have h16ln := not_f h16l
 have h16r := or_r h16
 have h16rn := not_f h16r
 have h16rni := inB_tt.1 (show inB c.timer 0 4 = true from by simpa using h16rn)
 refine kK ?_
 refine kS ?_
 refine kQ ?_
 refine kES [2,3,89] [(2,.p 1 0),(3,.p 2 0),(89,.v (.int .i64 3))] ?_
 refine xw_block ?_
 refine kQ ?_
 refine kES [2,3,89,90] [(2,.p 1 0),(3,.p 2 0),(89,.v (.int .i64 3)),(90,.v (.bool false))] ?_
 refine kN ?_
 refine kQ ?_
 refine kES [2,3,94] [(2,.p 1 0),(3,.p 2 0),(94,.v (.bool false))] ?_
 refine kN ?_
 refine kK ?_
 refine kQ ?_
 refine kEF [2] ⟨[(2,.p 1 0)],[⟨44,conL c (.slice Acrh c.r.held.length Ccrh)⟩,⟨44,conL { c with state := 3 } (.slice v1a c.r.held.length v1c)⟩,⟨44,conL { c with state := 3 } (.slice v1a c.r.held.length v1c)⟩,⟨44,conL { c with state := 3,timer := 0 } (.slice v1a c.r.held.length v1c)⟩],[],[ownF w.heap.size (.slice v1a c.r.held.length v1c) 2 (c.r.held.map pceCells),slF (.slice Acrh c.r.held.length Ccrh) 2 (c.r.held.map pceCells)]⟩ ?_
 refine kR ?_
 have hmod : turned c = ({ c with state := 3 }) := by first | rfl | (simp [turned, *]; done) | grind [turned] | grind [turned,turnState]
 exact ⟨[.agg (conL { c with state := 3 } (.slice v1a c.r.held.length v1c)).toArray],by kernel_rfl,fun w' hb hf ha => by rw [hmod]; exact xo1 ((v1a,v1c)) rfl rfl (pO (hf _ m0) hB) hb⟩
 refine kS ?_
 refine xw_join ⟨[(1,.p 0 0),(2,.p 1 0),(3,.p 2 0),(4,.v (.bool c.s.done)),(5,.v (.bool c.r.done)),(43,.v (.bool ((c.state == 2) && c.r.done)))],[⟨44,conL c (.slice Acrh c.r.held.length Ccrh)⟩,⟨44,conZ⟩,⟨44,conL c (.slice v1a c.r.held.length v1c)⟩],[],[ownF w.heap.size (.slice v1a c.r.held.length v1c) 2 (c.r.held.map pceCells),slF (.slice Acrh c.r.held.length Ccrh) 2 (c.r.held.map pceCells)]⟩ ?_ ?_
 refine kG ?_
 refine kRS 4 [1,2,3,4,5,47] [(1,.p 0 0),(2,.p 1 0),(3,.p 2 0),(4,.v (.bool c.s.done)),(5,.v (.bool c.r.done)),(47,.v (.bool (c.state == 2)))] ?_
 refine kP 47 (c.state == 2) (fun h18 => ?_) (fun h18 => ?_)
 have h18p := eqT h18
 refine kES [1,2,3,4,5,43] [(1,.p 0 0),(2,.p 1 0),(3,.p 2 0),(4,.v (.bool c.s.done)),(5,.v (.bool c.r.done)),(43,.v (.bool c.r.done))] ?_
 show Wk _ _
 try rw [h18]
 exact kF 3 0 [1,2,3,4,5,43]
 have h18p := eqF h18
 refine kES [1,2,3,4,5,43] [(1,.p 0 0),(2,.p 1 0),(3,.p 2 0),(4,.v (.bool c.s.done)),(5,.v (.bool c.r.done)),(43,.v (.bool false))] ?_
 show Wk _ _
 try rw [h18]
 exact kF 3 0 [1,2,3,4,5,43]
 refine kC ((c.state == 2) && c.r.done) (fun h19 => ?_) (fun h19 => ?_)
 have h19l := and_l h19
 have h19lp := eqT h19l
 have h19r := and_r h19
 refine kG ?_
 refine kEF [1,2,3] ⟨[(1,.p 0 0),(2,.p 1 0),(3,.p 2 0)],[⟨44,conL c (.slice Acrh c.r.held.length Ccrh)⟩,⟨44,conZ⟩,⟨44,conL { c with state := 5 } (.slice v1a c.r.held.length v1c)⟩],[],[ownF w.heap.size (.slice v1a c.r.held.length v1c) 2 (c.r.held.map pceCells),slF (.slice Acrh c.r.held.length Ccrh) 2 (c.r.held.map pceCells)]⟩ ?_
 refine kQ ?_
 refine kEF [1,2,3,6] ⟨[(1,.p 0 0),(2,.p 1 0),(3,.p 2 0),(6,.p 3 0)],[⟨44,conL c (.slice Acrh c.r.held.length Ccrh)⟩,⟨44,conZ⟩,⟨44,conL { c with state := 5 } (.slice v1a c.r.held.length v1c)⟩,⟨44,conL { c with state := 5 } (.slice v1a c.r.held.length v1c)⟩],[],[ownF w.heap.size (.slice v1a c.r.held.length v1c) 2 (c.r.held.map pceCells),slF (.slice Acrh c.r.held.length Ccrh) 2 (c.r.held.map pceCells)]⟩ ?_
 refine kQ ?_
 refine kEF [1,2,3,6] ⟨[(1,.p 0 0),(2,.p 1 0),(3,.p 2 0),(6,.p 3 0)],[⟨44,conL c (.slice Acrh c.r.held.length Ccrh)⟩,⟨44,conZ⟩,⟨44,conL { c with state := 5 } (.slice v1a c.r.held.length v1c)⟩,⟨44,conL { c with state := 5,timer := 0 } (.slice v1a c.r.held.length v1c)⟩],[],[ownF w.heap.size (.slice v1a c.r.held.length v1c) 2 (c.r.held.map pceCells),slF (.slice Acrh c.r.held.length Ccrh) 2 (c.r.held.map pceCells)]⟩ ?_
 refine kS ?_
 refine kS ?_
 refine xw_join ⟨[(1,.p 0 0),(2,.p 1 0),(3,.p 2 0),(85,.v (.bool ((!(conOk ({ c with state := 5,timer := 0 }))) || (!(inB c.timer 0 4)))))],[⟨44,conL c (.slice Acrh c.r.held.length Ccrh)⟩,⟨44,conZ⟩,⟨44,conL { c with state := 5 } (.slice v1a c.r.held.length v1c)⟩,⟨44,conL { c with state := 5,timer := 0 } (.slice v1a c.r.held.length v1c)⟩],[],[ownF w.heap.size (.slice v1a c.r.held.length v1c) 2 (c.r.held.map pceCells),slF (.slice Acrh c.r.held.length Ccrh) 2 (c.r.held.map pceCells)]⟩ ?_ ?_
 refine kG ?_
 refine kCS 1 [1,2,3,77] [(1,.p 0 0),(2,.p 1 0),(3,.p 2 0),(77,.v (.agg (conL { c with state := 5,timer := 0 } (.slice v1a c.r.held.length v1c)).toArray))] 24 [.agg (conL { c with state := 5,timer := 0 } (.slice v1a c.r.held.length v1c)).toArray] (some 78) rfl (xc_b fun ww hf => yiConnOk_c ({ c with state := 5,timer := 0 }) (.slice v1a c.r.held.length v1c) ww (Own.sl (hf _ m0)) (by assumption) (by omega)) ?_
 intro _
 refine kRS 2 [1,2,3,80] [(1,.p 0 0),(2,.p 1 0),(3,.p 2 0),(80,.v (.bool (!(conOk ({ c with state := 5,timer := 0 })))))] ?_
 refine kP 80 (!(conOk ({ c with state := 5,timer := 0 }))) (fun h20 => ?_) (fun h20 => ?_)
 have h20n := not_t h20
 refine kES [1,2,3,85] [(1,.p 0 0),(2,.p 1 0),(3,.p 2 0),(85,.v (.bool true))] ?_
 show Wk _ _
 try rw [h20]
 exact kF 4 0 [1,2,3,85]
 have h20n := not_f h20
 refine kCS 2 [1,2,3,80,82] [(1,.p 0 0),(2,.p 1 0),(3,.p 2 0),(80,.v (.bool false)),(82,.v (.int .i64 c.timer))] 62 [.int .i64 c.timer,.int .i64 0,.int .i64 4] (some 83) rfl (xc_s fun ww hf => within_c c.timer 0 4 ww ) ?_
 intro _
 refine kES [1,2,3,85] [(1,.p 0 0),(2,.p 1 0),(3,.p 2 0),(85,.v (.bool (!(inB c.timer 0 4))))] ?_
 show Wk _ _
 try rw [h20]
 exact kF 4 0 [1,2,3,85]
 refine kC ((!(conOk ({ c with state := 5,timer := 0 }))) || (!(inB c.timer 0 4))) (fun h21 => ?_) (fun h21 => ?_)
 refine kQ ?_
 refine kCS 1 [2,86] [(2,.p 1 0),(86,.v (.agg (conL c (.slice Acrh c.r.held.length Ccrh)).toArray))] 43 [.agg (conL c (.slice Acrh c.r.held.length Ccrh)).toArray] (some 87) rfl (xc_r fun ww hw hf => ycloneConn_c c (.slice Acrh c.r.held.length Ccrh) ww (hf _ m1) (by assumption) w.heap.size hw) ?_
 rintro ⟨v22a,v22c⟩
 refine kEF [2] ⟨[(2,.p 1 0)],[⟨44,conL c (.slice Acrh c.r.held.length Ccrh)⟩,⟨44,conL c (.slice v22a c.r.held.length v22c)⟩,⟨44,conL { c with state := 5 } (.slice v1a c.r.held.length v1c)⟩,⟨44,conL { c with state := 5,timer := 0 } (.slice v1a c.r.held.length v1c)⟩],[],[ownF w.heap.size (.slice v22a c.r.held.length v22c) 2 (c.r.held.map pceCells),ownF w.heap.size (.slice v1a c.r.held.length v1c) 2 (c.r.held.map pceCells),slF (.slice Acrh c.r.held.length Ccrh) 2 (c.r.held.map pceCells)]⟩ ?_
 refine kR ?_
 have hmod : turned c = c := by first | rfl | (simp [turned, *]; done) | grind [turned] | grind [turned,turnState]
 exact ⟨[.agg (conL c (.slice v22a c.r.held.length v22c)).toArray],by kernel_rfl,fun w' hb hf ha => by rw [hmod]; exact xo1 ((v22a,v22c)) rfl rfl (pO (hf _ m0) hB) hb⟩
 have h21l := or_l h21
 have h21ln := not_f h21l
 have h21r := or_r h21
 have h21rn := not_f h21r
 have h21rni := inB_tt.1 (show inB c.timer 0 4 = true from by simpa using h21rn)
 refine kK ?_
 refine kS ?_
 refine kQ ?_
 refine kES [2,3,89] [(2,.p 1 0),(3,.p 2 0),(89,.v (.int .i64 5))] ?_
 refine xw_block ?_
 refine kQ ?_
 refine kES [2,3,89,90] [(2,.p 1 0),(3,.p 2 0),(89,.v (.int .i64 5)),(90,.v (.bool false))] ?_
 refine kN ?_
 refine kQ ?_
 refine kES [2,3,94] [(2,.p 1 0),(3,.p 2 0),(94,.v (.bool false))] ?_
 refine kN ?_
 refine kK ?_
 refine kQ ?_
 refine kEF [2] ⟨[(2,.p 1 0)],[⟨44,conL c (.slice Acrh c.r.held.length Ccrh)⟩,⟨44,conL { c with state := 5 } (.slice v1a c.r.held.length v1c)⟩,⟨44,conL { c with state := 5 } (.slice v1a c.r.held.length v1c)⟩,⟨44,conL { c with state := 5,timer := 0 } (.slice v1a c.r.held.length v1c)⟩],[],[ownF w.heap.size (.slice v1a c.r.held.length v1c) 2 (c.r.held.map pceCells),slF (.slice Acrh c.r.held.length Ccrh) 2 (c.r.held.map pceCells)]⟩ ?_
 refine kR ?_
 have hmod : turned c = ({ c with state := 5 }) := by first | rfl | (simp [turned, *]; done) | grind [turned] | grind [turned,turnState]
 exact ⟨[.agg (conL { c with state := 5 } (.slice v1a c.r.held.length v1c)).toArray],by kernel_rfl,fun w' hb hf ha => by rw [hmod]; exact xo1 ((v1a,v1c)) rfl rfl (pO (hf _ m0) hB) hb⟩
 refine kS ?_
 refine xw_join ⟨[(1,.p 0 0),(2,.p 1 0),(3,.p 2 0),(4,.v (.bool c.s.done)),(51,.v (.bool ((c.state == 3) && c.r.done)))],[⟨44,conL c (.slice Acrh c.r.held.length Ccrh)⟩,⟨44,conZ⟩,⟨44,conL c (.slice v1a c.r.held.length v1c)⟩],[],[ownF w.heap.size (.slice v1a c.r.held.length v1c) 2 (c.r.held.map pceCells),slF (.slice Acrh c.r.held.length Ccrh) 2 (c.r.held.map pceCells)]⟩ ?_ ?_
 refine kG ?_
 refine kRS 4 [1,2,3,4,5,55] [(1,.p 0 0),(2,.p 1 0),(3,.p 2 0),(4,.v (.bool c.s.done)),(5,.v (.bool c.r.done)),(55,.v (.bool (c.state == 3)))] ?_
 refine kP 55 (c.state == 3) (fun h23 => ?_) (fun h23 => ?_)
 have h23p := eqT h23
 refine kES [1,2,3,4,51] [(1,.p 0 0),(2,.p 1 0),(3,.p 2 0),(4,.v (.bool c.s.done)),(51,.v (.bool c.r.done))] ?_
 show Wk _ _
 try rw [h23]
 exact kF 3 0 [1,2,3,4,51]
 have h23p := eqF h23
 refine kES [1,2,3,4,51] [(1,.p 0 0),(2,.p 1 0),(3,.p 2 0),(4,.v (.bool c.s.done)),(51,.v (.bool false))] ?_
 show Wk _ _
 try rw [h23]
 exact kF 3 0 [1,2,3,4,51]
 refine kC ((c.state == 3) && c.r.done) (fun h24 => ?_) (fun h24 => ?_)
 have h24l := and_l h24
 have h24lp := eqT h24l
 have h24r := and_r h24
 refine kG ?_
 refine kEF [1,2,3] ⟨[(1,.p 0 0),(2,.p 1 0),(3,.p 2 0)],[⟨44,conL c (.slice Acrh c.r.held.length Ccrh)⟩,⟨44,conZ⟩,⟨44,conL { c with state := 7 } (.slice v1a c.r.held.length v1c)⟩],[],[ownF w.heap.size (.slice v1a c.r.held.length v1c) 2 (c.r.held.map pceCells),slF (.slice Acrh c.r.held.length Ccrh) 2 (c.r.held.map pceCells)]⟩ ?_
 refine kQ ?_
 refine kEF [1,2,3,6] ⟨[(1,.p 0 0),(2,.p 1 0),(3,.p 2 0),(6,.p 3 0)],[⟨44,conL c (.slice Acrh c.r.held.length Ccrh)⟩,⟨44,conZ⟩,⟨44,conL { c with state := 7 } (.slice v1a c.r.held.length v1c)⟩,⟨44,conL { c with state := 7 } (.slice v1a c.r.held.length v1c)⟩],[],[ownF w.heap.size (.slice v1a c.r.held.length v1c) 2 (c.r.held.map pceCells),slF (.slice Acrh c.r.held.length Ccrh) 2 (c.r.held.map pceCells)]⟩ ?_
 refine kQ ?_
 refine kEF [1,2,3,6] ⟨[(1,.p 0 0),(2,.p 1 0),(3,.p 2 0),(6,.p 3 0)],[⟨44,conL c (.slice Acrh c.r.held.length Ccrh)⟩,⟨44,conZ⟩,⟨44,conL { c with state := 7 } (.slice v1a c.r.held.length v1c)⟩,⟨44,conL { c with state := 7,timer := 0 } (.slice v1a c.r.held.length v1c)⟩],[],[ownF w.heap.size (.slice v1a c.r.held.length v1c) 2 (c.r.held.map pceCells),slF (.slice Acrh c.r.held.length Ccrh) 2 (c.r.held.map pceCells)]⟩ ?_
 refine kS ?_
 refine kS ?_
 refine xw_join ⟨[(1,.p 0 0),(2,.p 1 0),(3,.p 2 0),(85,.v (.bool ((!(conOk ({ c with state := 7,timer := 0 }))) || (!(inB c.timer 0 4)))))],[⟨44,conL c (.slice Acrh c.r.held.length Ccrh)⟩,⟨44,conZ⟩,⟨44,conL { c with state := 7 } (.slice v1a c.r.held.length v1c)⟩,⟨44,conL { c with state := 7,timer := 0 } (.slice v1a c.r.held.length v1c)⟩],[],[ownF w.heap.size (.slice v1a c.r.held.length v1c) 2 (c.r.held.map pceCells),slF (.slice Acrh c.r.held.length Ccrh) 2 (c.r.held.map pceCells)]⟩ ?_ ?_
 refine kG ?_
 refine kCS 1 [1,2,3,77] [(1,.p 0 0),(2,.p 1 0),(3,.p 2 0),(77,.v (.agg (conL { c with state := 7,timer := 0 } (.slice v1a c.r.held.length v1c)).toArray))] 24 [.agg (conL { c with state := 7,timer := 0 } (.slice v1a c.r.held.length v1c)).toArray] (some 78) rfl (xc_b fun ww hf => yiConnOk_c ({ c with state := 7,timer := 0 }) (.slice v1a c.r.held.length v1c) ww (Own.sl (hf _ m0)) (by assumption) (by omega)) ?_
 intro _
 refine kRS 2 [1,2,3,80] [(1,.p 0 0),(2,.p 1 0),(3,.p 2 0),(80,.v (.bool (!(conOk ({ c with state := 7,timer := 0 })))))] ?_
 refine kP 80 (!(conOk ({ c with state := 7,timer := 0 }))) (fun h25 => ?_) (fun h25 => ?_)
 have h25n := not_t h25
 refine kES [1,2,3,85] [(1,.p 0 0),(2,.p 1 0),(3,.p 2 0),(85,.v (.bool true))] ?_
 show Wk _ _
 try rw [h25]
 exact kF 4 0 [1,2,3,85]
 have h25n := not_f h25
 refine kCS 2 [1,2,3,80,82] [(1,.p 0 0),(2,.p 1 0),(3,.p 2 0),(80,.v (.bool false)),(82,.v (.int .i64 c.timer))] 62 [.int .i64 c.timer,.int .i64 0,.int .i64 4] (some 83) rfl (xc_s fun ww hf => within_c c.timer 0 4 ww ) ?_
 intro _
 refine kES [1,2,3,85] [(1,.p 0 0),(2,.p 1 0),(3,.p 2 0),(85,.v (.bool (!(inB c.timer 0 4))))] ?_
 show Wk _ _
 try rw [h25]
 exact kF 4 0 [1,2,3,85]
 refine kC ((!(conOk ({ c with state := 7,timer := 0 }))) || (!(inB c.timer 0 4))) (fun h26 => ?_) (fun h26 => ?_)
 refine kQ ?_
 refine kCS 1 [2,86] [(2,.p 1 0),(86,.v (.agg (conL c (.slice Acrh c.r.held.length Ccrh)).toArray))] 43 [.agg (conL c (.slice Acrh c.r.held.length Ccrh)).toArray] (some 87) rfl (xc_r fun ww hw hf => ycloneConn_c c (.slice Acrh c.r.held.length Ccrh) ww (hf _ m1) (by assumption) w.heap.size hw) ?_
 rintro ⟨v27a,v27c⟩
 refine kEF [2] ⟨[(2,.p 1 0)],[⟨44,conL c (.slice Acrh c.r.held.length Ccrh)⟩,⟨44,conL c (.slice v27a c.r.held.length v27c)⟩,⟨44,conL { c with state := 7 } (.slice v1a c.r.held.length v1c)⟩,⟨44,conL { c with state := 7,timer := 0 } (.slice v1a c.r.held.length v1c)⟩],[],[ownF w.heap.size (.slice v27a c.r.held.length v27c) 2 (c.r.held.map pceCells),ownF w.heap.size (.slice v1a c.r.held.length v1c) 2 (c.r.held.map pceCells),slF (.slice Acrh c.r.held.length Ccrh) 2 (c.r.held.map pceCells)]⟩ ?_
 refine kR ?_
 have hmod : turned c = c := by first | rfl | (simp [turned, *]; done) | grind [turned] | grind [turned,turnState]
 exact ⟨[.agg (conL c (.slice v27a c.r.held.length v27c)).toArray],by kernel_rfl,fun w' hb hf ha => by rw [hmod]; exact xo1 ((v27a,v27c)) rfl rfl (pO (hf _ m0) hB) hb⟩
 have h26l := or_l h26
 have h26ln := not_f h26l
 have h26r := or_r h26
 have h26rn := not_f h26r
 have h26rni := inB_tt.1 (show inB c.timer 0 4 = true from by simpa using h26rn)
 refine kK ?_
 refine kS ?_
 refine kQ ?_
 refine kES [2,3,89] [(2,.p 1 0),(3,.p 2 0),(89,.v (.int .i64 7))] ?_
 refine xw_block ?_
 refine kQ ?_
 refine kES [2,3,89,90] [(2,.p 1 0),(3,.p 2 0),(89,.v (.int .i64 7)),(90,.v (.bool true))] ?_
 refine kT ?_
 refine kG ?_
 refine kEF [2,3] ⟨[(2,.p 1 0),(3,.p 2 0)],[⟨44,conL c (.slice Acrh c.r.held.length Ccrh)⟩,⟨44,conZ⟩,⟨44,conL { c with state := 7,timer := 4,tries := 0 } (.slice v1a c.r.held.length v1c)⟩,⟨44,conL { c with state := 7,timer := 0 } (.slice v1a c.r.held.length v1c)⟩],[],[ownF w.heap.size (.slice v1a c.r.held.length v1c) 2 (c.r.held.map pceCells),slF (.slice Acrh c.r.held.length Ccrh) 2 (c.r.held.map pceCells)]⟩ ?_
 refine kQ ?_
 refine kEF [2] ⟨[(2,.p 1 0)],[⟨44,conL c (.slice Acrh c.r.held.length Ccrh)⟩,⟨44,conL { c with state := 7,timer := 4,tries := 0 } (.slice v1a c.r.held.length v1c)⟩,⟨44,conL { c with state := 7,timer := 4,tries := 0 } (.slice v1a c.r.held.length v1c)⟩,⟨44,conL { c with state := 7,timer := 0 } (.slice v1a c.r.held.length v1c)⟩],[],[ownF w.heap.size (.slice v1a c.r.held.length v1c) 2 (c.r.held.map pceCells),slF (.slice Acrh c.r.held.length Ccrh) 2 (c.r.held.map pceCells)]⟩ ?_
 refine kR ?_
 have hmod : turned c = ({ c with state := 7,timer := 4,tries := 0 }) := by first | rfl | (simp [turned, *]; done) | grind [turned] | grind [turned,turnState]
 exact ⟨[.agg (conL { c with state := 7,timer := 4,tries := 0 } (.slice v1a c.r.held.length v1c)).toArray],by kernel_rfl,fun w' hb hf ha => by rw [hmod]; exact xo1 ((v1a,v1c)) rfl rfl (pO (hf _ m0) hB) hb⟩
 refine kS ?_
 refine xw_join ⟨[(1,.p 0 0),(2,.p 1 0),(3,.p 2 0),(4,.v (.bool c.s.done)),(59,.v (.bool ((c.state == 5) && c.s.done)))],[⟨44,conL c (.slice Acrh c.r.held.length Ccrh)⟩,⟨44,conZ⟩,⟨44,conL c (.slice v1a c.r.held.length v1c)⟩],[],[ownF w.heap.size (.slice v1a c.r.held.length v1c) 2 (c.r.held.map pceCells),slF (.slice Acrh c.r.held.length Ccrh) 2 (c.r.held.map pceCells)]⟩ ?_ ?_
 refine kG ?_
 refine kRS 4 [1,2,3,4,63] [(1,.p 0 0),(2,.p 1 0),(3,.p 2 0),(4,.v (.bool c.s.done)),(63,.v (.bool (c.state == 5)))] ?_
 refine kP 63 (c.state == 5) (fun h28 => ?_) (fun h28 => ?_)
 have h28p := eqT h28
 refine kES [1,2,3,4,59] [(1,.p 0 0),(2,.p 1 0),(3,.p 2 0),(4,.v (.bool c.s.done)),(59,.v (.bool c.s.done))] ?_
 show Wk _ _
 try rw [h28]
 exact kF 3 0 [1,2,3,4,59]
 have h28p := eqF h28
 refine kES [1,2,3,4,59] [(1,.p 0 0),(2,.p 1 0),(3,.p 2 0),(4,.v (.bool c.s.done)),(59,.v (.bool false))] ?_
 show Wk _ _
 try rw [h28]
 exact kF 3 0 [1,2,3,4,59]
 refine kC ((c.state == 5) && c.s.done) (fun h29 => ?_) (fun h29 => ?_)
 have h29l := and_l h29
 have h29lp := eqT h29l
 have h29r := and_r h29
 refine kG ?_
 refine kEF [1,2,3] ⟨[(1,.p 0 0),(2,.p 1 0),(3,.p 2 0)],[⟨44,conL c (.slice Acrh c.r.held.length Ccrh)⟩,⟨44,conZ⟩,⟨44,conL { c with state := 7 } (.slice v1a c.r.held.length v1c)⟩],[],[ownF w.heap.size (.slice v1a c.r.held.length v1c) 2 (c.r.held.map pceCells),slF (.slice Acrh c.r.held.length Ccrh) 2 (c.r.held.map pceCells)]⟩ ?_
 refine kQ ?_
 refine kEF [1,2,3,6] ⟨[(1,.p 0 0),(2,.p 1 0),(3,.p 2 0),(6,.p 3 0)],[⟨44,conL c (.slice Acrh c.r.held.length Ccrh)⟩,⟨44,conZ⟩,⟨44,conL { c with state := 7 } (.slice v1a c.r.held.length v1c)⟩,⟨44,conL { c with state := 7 } (.slice v1a c.r.held.length v1c)⟩],[],[ownF w.heap.size (.slice v1a c.r.held.length v1c) 2 (c.r.held.map pceCells),slF (.slice Acrh c.r.held.length Ccrh) 2 (c.r.held.map pceCells)]⟩ ?_
 refine kQ ?_
 refine kEF [1,2,3,6] ⟨[(1,.p 0 0),(2,.p 1 0),(3,.p 2 0),(6,.p 3 0)],[⟨44,conL c (.slice Acrh c.r.held.length Ccrh)⟩,⟨44,conZ⟩,⟨44,conL { c with state := 7 } (.slice v1a c.r.held.length v1c)⟩,⟨44,conL { c with state := 7,timer := 0 } (.slice v1a c.r.held.length v1c)⟩],[],[ownF w.heap.size (.slice v1a c.r.held.length v1c) 2 (c.r.held.map pceCells),slF (.slice Acrh c.r.held.length Ccrh) 2 (c.r.held.map pceCells)]⟩ ?_
 refine kS ?_
 refine kS ?_
 refine xw_join ⟨[(1,.p 0 0),(2,.p 1 0),(3,.p 2 0),(85,.v (.bool ((!(conOk ({ c with state := 7,timer := 0 }))) || (!(inB c.timer 0 4)))))],[⟨44,conL c (.slice Acrh c.r.held.length Ccrh)⟩,⟨44,conZ⟩,⟨44,conL { c with state := 7 } (.slice v1a c.r.held.length v1c)⟩,⟨44,conL { c with state := 7,timer := 0 } (.slice v1a c.r.held.length v1c)⟩],[],[ownF w.heap.size (.slice v1a c.r.held.length v1c) 2 (c.r.held.map pceCells),slF (.slice Acrh c.r.held.length Ccrh) 2 (c.r.held.map pceCells)]⟩ ?_ ?_
 refine kG ?_
 refine kCS 1 [1,2,3,77] [(1,.p 0 0),(2,.p 1 0),(3,.p 2 0),(77,.v (.agg (conL { c with state := 7,timer := 0 } (.slice v1a c.r.held.length v1c)).toArray))] 24 [.agg (conL { c with state := 7,timer := 0 } (.slice v1a c.r.held.length v1c)).toArray] (some 78) rfl (xc_b fun ww hf => yiConnOk_c ({ c with state := 7,timer := 0 }) (.slice v1a c.r.held.length v1c) ww (Own.sl (hf _ m0)) (by assumption) (by omega)) ?_
 intro _
 refine kRS 2 [1,2,3,80] [(1,.p 0 0),(2,.p 1 0),(3,.p 2 0),(80,.v (.bool (!(conOk ({ c with state := 7,timer := 0 })))))] ?_
 refine kP 80 (!(conOk ({ c with state := 7,timer := 0 }))) (fun h30 => ?_) (fun h30 => ?_)
 have h30n := not_t h30
 refine kES [1,2,3,85] [(1,.p 0 0),(2,.p 1 0),(3,.p 2 0),(85,.v (.bool true))] ?_
 show Wk _ _
 try rw [h30]
 exact kF 4 0 [1,2,3,85]
 have h30n := not_f h30
 refine kCS 2 [1,2,3,80,82] [(1,.p 0 0),(2,.p 1 0),(3,.p 2 0),(80,.v (.bool false)),(82,.v (.int .i64 c.timer))] 62 [.int .i64 c.timer,.int .i64 0,.int .i64 4] (some 83) rfl (xc_s fun ww hf => within_c c.timer 0 4 ww ) ?_
 intro _
 refine kES [1,2,3,85] [(1,.p 0 0),(2,.p 1 0),(3,.p 2 0),(85,.v (.bool (!(inB c.timer 0 4))))] ?_
 show Wk _ _
 try rw [h30]
 exact kF 4 0 [1,2,3,85]
 refine kC ((!(conOk ({ c with state := 7,timer := 0 }))) || (!(inB c.timer 0 4))) (fun h31 => ?_) (fun h31 => ?_)
 refine kQ ?_
 refine kCS 1 [2,86] [(2,.p 1 0),(86,.v (.agg (conL c (.slice Acrh c.r.held.length Ccrh)).toArray))] 43 [.agg (conL c (.slice Acrh c.r.held.length Ccrh)).toArray] (some 87) rfl (xc_r fun ww hw hf => ycloneConn_c c (.slice Acrh c.r.held.length Ccrh) ww (hf _ m1) (by assumption) w.heap.size hw) ?_
 rintro ⟨v32a,v32c⟩
 refine kEF [2] ⟨[(2,.p 1 0)],[⟨44,conL c (.slice Acrh c.r.held.length Ccrh)⟩,⟨44,conL c (.slice v32a c.r.held.length v32c)⟩,⟨44,conL { c with state := 7 } (.slice v1a c.r.held.length v1c)⟩,⟨44,conL { c with state := 7,timer := 0 } (.slice v1a c.r.held.length v1c)⟩],[],[ownF w.heap.size (.slice v32a c.r.held.length v32c) 2 (c.r.held.map pceCells),ownF w.heap.size (.slice v1a c.r.held.length v1c) 2 (c.r.held.map pceCells),slF (.slice Acrh c.r.held.length Ccrh) 2 (c.r.held.map pceCells)]⟩ ?_
 refine kR ?_
 have hmod : turned c = c := by first | rfl | (simp [turned, *]; done) | grind [turned] | grind [turned,turnState]
 exact ⟨[.agg (conL c (.slice v32a c.r.held.length v32c)).toArray],by kernel_rfl,fun w' hb hf ha => by rw [hmod]; exact xo1 ((v32a,v32c)) rfl rfl (pO (hf _ m0) hB) hb⟩
 have h31l := or_l h31
 have h31ln := not_f h31l
 have h31r := or_r h31
 have h31rn := not_f h31r
 have h31rni := inB_tt.1 (show inB c.timer 0 4 = true from by simpa using h31rn)
 refine kK ?_
 refine kS ?_
 refine kQ ?_
 refine kES [2,3,89] [(2,.p 1 0),(3,.p 2 0),(89,.v (.int .i64 7))] ?_
 refine xw_block ?_
 refine kQ ?_
 refine kES [2,3,89,90] [(2,.p 1 0),(3,.p 2 0),(89,.v (.int .i64 7)),(90,.v (.bool true))] ?_
 refine kT ?_
 refine kG ?_
 refine kEF [2,3] ⟨[(2,.p 1 0),(3,.p 2 0)],[⟨44,conL c (.slice Acrh c.r.held.length Ccrh)⟩,⟨44,conZ⟩,⟨44,conL { c with state := 7,timer := 4,tries := 0 } (.slice v1a c.r.held.length v1c)⟩,⟨44,conL { c with state := 7,timer := 0 } (.slice v1a c.r.held.length v1c)⟩],[],[ownF w.heap.size (.slice v1a c.r.held.length v1c) 2 (c.r.held.map pceCells),slF (.slice Acrh c.r.held.length Ccrh) 2 (c.r.held.map pceCells)]⟩ ?_
 refine kQ ?_
 refine kEF [2] ⟨[(2,.p 1 0)],[⟨44,conL c (.slice Acrh c.r.held.length Ccrh)⟩,⟨44,conL { c with state := 7,timer := 4,tries := 0 } (.slice v1a c.r.held.length v1c)⟩,⟨44,conL { c with state := 7,timer := 4,tries := 0 } (.slice v1a c.r.held.length v1c)⟩,⟨44,conL { c with state := 7,timer := 0 } (.slice v1a c.r.held.length v1c)⟩],[],[ownF w.heap.size (.slice v1a c.r.held.length v1c) 2 (c.r.held.map pceCells),slF (.slice Acrh c.r.held.length Ccrh) 2 (c.r.held.map pceCells)]⟩ ?_
 refine kR ?_
 have hmod : turned c = ({ c with state := 7,timer := 4,tries := 0 }) := by first | rfl | (simp [turned, *]; done) | grind [turned] | grind [turned,turnState]
 exact ⟨[.agg (conL { c with state := 7,timer := 4,tries := 0 } (.slice v1a c.r.held.length v1c)).toArray],by kernel_rfl,fun w' hb hf ha => by rw [hmod]; exact xo1 ((v1a,v1c)) rfl rfl (pO (hf _ m0) hB) hb⟩
 refine kS ?_
 refine xw_join ⟨[(1,.p 0 0),(2,.p 1 0),(3,.p 2 0),(67,.v (.bool ((c.state == 6) && c.s.done)))],[⟨44,conL c (.slice Acrh c.r.held.length Ccrh)⟩,⟨44,conZ⟩,⟨44,conL c (.slice v1a c.r.held.length v1c)⟩],[],[ownF w.heap.size (.slice v1a c.r.held.length v1c) 2 (c.r.held.map pceCells),slF (.slice Acrh c.r.held.length Ccrh) 2 (c.r.held.map pceCells)]⟩ ?_ ?_
 refine kG ?_
 refine kRS 4 [1,2,3,4,71] [(1,.p 0 0),(2,.p 1 0),(3,.p 2 0),(4,.v (.bool c.s.done)),(71,.v (.bool (c.state == 6)))] ?_
 refine kP 71 (c.state == 6) (fun h33 => ?_) (fun h33 => ?_)
 have h33p := eqT h33
 refine kES [1,2,3,67] [(1,.p 0 0),(2,.p 1 0),(3,.p 2 0),(67,.v (.bool c.s.done))] ?_
 show Wk _ _
 try rw [h33]
 exact kF 3 0 [1,2,3,67]
 have h33p := eqF h33
 refine kES [1,2,3,67] [(1,.p 0 0),(2,.p 1 0),(3,.p 2 0),(67,.v (.bool false))] ?_
 show Wk _ _
 try rw [h33]
 exact kF 3 0 [1,2,3,67]
 refine kC ((c.state == 6) && c.s.done) (fun h34 => ?_) (fun h34 => ?_)
 have h34l := and_l h34
 have h34lp := eqT h34l
 have h34r := and_r h34
 refine kG ?_
 refine kEF [1,2,3] ⟨[(1,.p 0 0),(2,.p 1 0),(3,.p 2 0)],[⟨44,conL c (.slice Acrh c.r.held.length Ccrh)⟩,⟨44,conZ⟩,⟨44,conL { c with state := 8 } (.slice v1a c.r.held.length v1c)⟩],[],[ownF w.heap.size (.slice v1a c.r.held.length v1c) 2 (c.r.held.map pceCells),slF (.slice Acrh c.r.held.length Ccrh) 2 (c.r.held.map pceCells)]⟩ ?_
 refine kQ ?_
 refine kEF [1,2,3,6] ⟨[(1,.p 0 0),(2,.p 1 0),(3,.p 2 0),(6,.p 3 0)],[⟨44,conL c (.slice Acrh c.r.held.length Ccrh)⟩,⟨44,conZ⟩,⟨44,conL { c with state := 8 } (.slice v1a c.r.held.length v1c)⟩,⟨44,conL { c with state := 8 } (.slice v1a c.r.held.length v1c)⟩],[],[ownF w.heap.size (.slice v1a c.r.held.length v1c) 2 (c.r.held.map pceCells),slF (.slice Acrh c.r.held.length Ccrh) 2 (c.r.held.map pceCells)]⟩ ?_
 refine kQ ?_
 refine kEF [1,2,3,6] ⟨[(1,.p 0 0),(2,.p 1 0),(3,.p 2 0),(6,.p 3 0)],[⟨44,conL c (.slice Acrh c.r.held.length Ccrh)⟩,⟨44,conZ⟩,⟨44,conL { c with state := 8 } (.slice v1a c.r.held.length v1c)⟩,⟨44,conL { c with state := 8,timer := 0 } (.slice v1a c.r.held.length v1c)⟩],[],[ownF w.heap.size (.slice v1a c.r.held.length v1c) 2 (c.r.held.map pceCells),slF (.slice Acrh c.r.held.length Ccrh) 2 (c.r.held.map pceCells)]⟩ ?_
 refine kS ?_
 refine kS ?_
 refine xw_join ⟨[(1,.p 0 0),(2,.p 1 0),(3,.p 2 0),(85,.v (.bool ((!(conOk ({ c with state := 8,timer := 0 }))) || (!(inB c.timer 0 4)))))],[⟨44,conL c (.slice Acrh c.r.held.length Ccrh)⟩,⟨44,conZ⟩,⟨44,conL { c with state := 8 } (.slice v1a c.r.held.length v1c)⟩,⟨44,conL { c with state := 8,timer := 0 } (.slice v1a c.r.held.length v1c)⟩],[],[ownF w.heap.size (.slice v1a c.r.held.length v1c) 2 (c.r.held.map pceCells),slF (.slice Acrh c.r.held.length Ccrh) 2 (c.r.held.map pceCells)]⟩ ?_ ?_
 refine kG ?_
 refine kCS 1 [1,2,3,77] [(1,.p 0 0),(2,.p 1 0),(3,.p 2 0),(77,.v (.agg (conL { c with state := 8,timer := 0 } (.slice v1a c.r.held.length v1c)).toArray))] 24 [.agg (conL { c with state := 8,timer := 0 } (.slice v1a c.r.held.length v1c)).toArray] (some 78) rfl (xc_b fun ww hf => yiConnOk_c ({ c with state := 8,timer := 0 }) (.slice v1a c.r.held.length v1c) ww (Own.sl (hf _ m0)) (by assumption) (by omega)) ?_
 intro _
 refine kRS 2 [1,2,3,80] [(1,.p 0 0),(2,.p 1 0),(3,.p 2 0),(80,.v (.bool (!(conOk ({ c with state := 8,timer := 0 })))))] ?_
 refine kP 80 (!(conOk ({ c with state := 8,timer := 0 }))) (fun h35 => ?_) (fun h35 => ?_)
 have h35n := not_t h35
 refine kES [1,2,3,85] [(1,.p 0 0),(2,.p 1 0),(3,.p 2 0),(85,.v (.bool true))] ?_
 show Wk _ _
 try rw [h35]
 exact kF 4 0 [1,2,3,85]
 have h35n := not_f h35
 refine kCS 2 [1,2,3,80,82] [(1,.p 0 0),(2,.p 1 0),(3,.p 2 0),(80,.v (.bool false)),(82,.v (.int .i64 c.timer))] 62 [.int .i64 c.timer,.int .i64 0,.int .i64 4] (some 83) rfl (xc_s fun ww hf => within_c c.timer 0 4 ww ) ?_
 intro _
 refine kES [1,2,3,85] [(1,.p 0 0),(2,.p 1 0),(3,.p 2 0),(85,.v (.bool (!(inB c.timer 0 4))))] ?_
 show Wk _ _
 try rw [h35]
 exact kF 4 0 [1,2,3,85]
 refine kC ((!(conOk ({ c with state := 8,timer := 0 }))) || (!(inB c.timer 0 4))) (fun h36 => ?_) (fun h36 => ?_)
 refine kQ ?_
 refine kCS 1 [2,86] [(2,.p 1 0),(86,.v (.agg (conL c (.slice Acrh c.r.held.length Ccrh)).toArray))] 43 [.agg (conL c (.slice Acrh c.r.held.length Ccrh)).toArray] (some 87) rfl (xc_r fun ww hw hf => ycloneConn_c c (.slice Acrh c.r.held.length Ccrh) ww (hf _ m1) (by assumption) w.heap.size hw) ?_
 rintro ⟨v37a,v37c⟩
 refine kEF [2] ⟨[(2,.p 1 0)],[⟨44,conL c (.slice Acrh c.r.held.length Ccrh)⟩,⟨44,conL c (.slice v37a c.r.held.length v37c)⟩,⟨44,conL { c with state := 8 } (.slice v1a c.r.held.length v1c)⟩,⟨44,conL { c with state := 8,timer := 0 } (.slice v1a c.r.held.length v1c)⟩],[],[ownF w.heap.size (.slice v37a c.r.held.length v37c) 2 (c.r.held.map pceCells),ownF w.heap.size (.slice v1a c.r.held.length v1c) 2 (c.r.held.map pceCells),slF (.slice Acrh c.r.held.length Ccrh) 2 (c.r.held.map pceCells)]⟩ ?_
 refine kR ?_
 have hmod : turned c = c := by first | rfl | (simp [turned, *]; done) | grind [turned] | grind [turned,turnState]
 exact ⟨[.agg (conL c (.slice v37a c.r.held.length v37c)).toArray],by kernel_rfl,fun w' hb hf ha => by rw [hmod]; exact xo1 ((v37a,v37c)) rfl rfl (pO (hf _ m0) hB) hb⟩
 have h36l := or_l h36
 have h36ln := not_f h36l
 have h36r := or_r h36
 have h36rn := not_f h36r
 have h36rni := inB_tt.1 (show inB c.timer 0 4 = true from by simpa using h36rn)
 refine kK ?_
 refine kS ?_
 refine kQ ?_
 refine kES [2,3,89] [(2,.p 1 0),(3,.p 2 0),(89,.v (.int .i64 8))] ?_
 refine xw_block ?_
 refine kQ ?_
 refine kES [2,3,89,90] [(2,.p 1 0),(3,.p 2 0),(89,.v (.int .i64 8)),(90,.v (.bool false))] ?_
 refine kN ?_
 refine kQ ?_
 refine kES [2,3,94] [(2,.p 1 0),(3,.p 2 0),(94,.v (.bool true))] ?_
 refine kT ?_
 refine kG ?_
 refine kEF [2,3] ⟨[(2,.p 1 0),(3,.p 2 0)],[⟨44,conL c (.slice Acrh c.r.held.length Ccrh)⟩,⟨44,conZ⟩,⟨44,conL { c with state := 8,timer := 0,tries := 0 } (.slice v1a c.r.held.length v1c)⟩,⟨44,conL { c with state := 8,timer := 0 } (.slice v1a c.r.held.length v1c)⟩],[],[ownF w.heap.size (.slice v1a c.r.held.length v1c) 2 (c.r.held.map pceCells),slF (.slice Acrh c.r.held.length Ccrh) 2 (c.r.held.map pceCells)]⟩ ?_
 refine kQ ?_
 refine kEF [2] ⟨[(2,.p 1 0)],[⟨44,conL c (.slice Acrh c.r.held.length Ccrh)⟩,⟨44,conL { c with state := 8,timer := 0,tries := 0 } (.slice v1a c.r.held.length v1c)⟩,⟨44,conL { c with state := 8,timer := 0,tries := 0 } (.slice v1a c.r.held.length v1c)⟩,⟨44,conL { c with state := 8,timer := 0 } (.slice v1a c.r.held.length v1c)⟩],[],[ownF w.heap.size (.slice v1a c.r.held.length v1c) 2 (c.r.held.map pceCells),slF (.slice Acrh c.r.held.length Ccrh) 2 (c.r.held.map pceCells)]⟩ ?_
 refine kR ?_
 have hmod : turned c = ({ c with state := 8,timer := 0,tries := 0 }) := by first | rfl | (simp [turned, *]; done) | grind [turned] | grind [turned,turnState]
 exact ⟨[.agg (conL { c with state := 8,timer := 0,tries := 0 } (.slice v1a c.r.held.length v1c)).toArray],by kernel_rfl,fun w' hb hf ha => by rw [hmod]; exact xo1 ((v1a,v1c)) rfl rfl (pO (hf _ m0) hB) hb⟩
 refine kQ ?_
 refine kEF [2] ⟨[(2,.p 1 0)],[⟨44,conL c (.slice Acrh c.r.held.length Ccrh)⟩,⟨44,conL c (.slice v1a c.r.held.length v1c)⟩,⟨44,conL c (.slice v1a c.r.held.length v1c)⟩],[],[ownF w.heap.size (.slice v1a c.r.held.length v1c) 2 (c.r.held.map pceCells),slF (.slice Acrh c.r.held.length Ccrh) 2 (c.r.held.map pceCells)]⟩ ?_
 refine kR ?_
 have hmod : turned c = c := by first | rfl | (simp [turned, *]; done) | grind [turned] | grind [turned,turnState]
 exact ⟨[.agg (conL c (.slice v1a c.r.held.length v1c)).toArray],by kernel_rfl,fun w' hb hf ha => by rw [hmod]; exact xo1 ((v1a,v1c)) rfl rfl (pO (hf _ m0) hB) hb⟩
theorem ymarkText_c (k : Int) (w : World) (hk : k ≤ 4611686018427387904) : Calls Tryz.prog 54 #[.int .i64 k] w fun e w' => e = .returned (.string (markText k)) ∧ Below w.heap.size w w' := by
 refine x_calls (args := [.int .i64 k]) (fn := Tryz.f54) [] Tryz.func54 rfl Tryz.ntmps54 rfl (by simp) ?_
 refine kQ ?_
 refine kEF [0] ⟨[(0,.v (.int .i64 k))],[],[],[]⟩ ?_
 refine kS ?_
 refine kQ ?_
 refine kES [0,5] [(0,.v (.int .i64 k)),(5,.v (.bool (decide (k ≤ 0))))] ?_
 refine kC (decide (k ≤ 0)) (fun h1 => ?_) (fun h1 => ?_)
 have h1p := of_decide_eq_true h1
 refine kQ ?_
 refine kES [2] [(2,.v (.string (⟨#[109,48]⟩ : ByteArray)))] ?_
 refine kR ?_
 have hmod : markText k = (⟨#[109,48]⟩ : ByteArray) := by first | rfl | (simp [markText, *]; done) | (rw [markText,if_neg (by omega),hE])
 exact ⟨[.string (⟨#[109,48]⟩ : ByteArray)],by kernel_rfl,fun w' hb hf => by rw [hmod]; exact ⟨rfl,hb⟩⟩
 have h1p := of_decide_eq_false h1
 refine kK ?_
 refine kQ ?_
 refine kES [0,3] [(0,.v (.int .i64 k)),(3,.v (.string (⟨#[]⟩ : ByteArray)))] ?_
 refine kS ?_
 refine xw_block ?_
 refine xw_loopW (α := {x : Int × ByteArray // (fun (z : Int) (out : ByteArray) => markLoop k (⟨#[]⟩ : ByteArray) = markLoop z out ∧ out.size + z.toNat ≤ k.toNat) x.1 x.2}) (fun x => (fun (z : Int) (out : ByteArray) => (⟨[(0,.v (.int .i64 z)),(3,.v (.string out))],[],[],[]⟩ : St)) x.1.1 x.1.2) (fun x => (fun (z : Int) (out : ByteArray) => z.toNat) x.1.1 x.1.2) ⟨(k,(⟨#[]⟩ : ByteArray)),⟨rfl,Nat.le_of_eq (Nat.zero_add _)⟩⟩ (kF 0 0 [0,3]) ?_
 rintro ⟨⟨z,out⟩,HK,hR⟩
 try dsimp only
 try dsimp only at HK hR
 refine kS ?_
 refine kQ ?_
 refine kES [0,3,7] [(0,.v (.int .i64 z)),(3,.v (.string out)),(7,.v (.bool (decide (z > 0))))] ?_
 refine kC (decide (z > 0)) (fun h2 => ?_) (fun h2 => ?_)
 have h2p := of_decide_eq_true h2
 have hz : 0 < z := by simpa using h2
 refine kK ?_
 refine xw_block ?_
 refine kQ ?_
 refine kOS 1 [0,3,8] [(0,.v (.int .i64 z)),(3,.v (.string out)),(8,.v (.int .i64 z))] (.int .i64 (Int.tmod z 10)) rfl (fun _ _ _ ww hr => act_bin hr.1 rfl (by kernel_rfl) (by kernel_rfl) (rem_run (by first | decide | omega) ww)) ?_
 refine kHS 2 [0,3,11] [(0,.v (.int .i64 z)),(3,.v (.string out)),(11,.v (.int .u8 (IntKind.u8.wrap (IntKind.i64.wrap (48 + (Int.tmod z 10))))))] rfl (hv_build (e := 5) (K := 1) (bytes := 1) [.int .u8 (IntKind.u8.wrap (IntKind.i64.wrap (48 + (Int.tmod z 10))))] rfl (by kernel_rfl) (by kernel_rfl) (by kernel_rfl) (by kernel_rfl) (by kernel_rfl) (rs := ([IntKind.u8.wrap (IntKind.i64.wrap (48 + (Int.tmod z 10)))] : List Int).map byteRow) rfl) ?_
 intro g3
 refine kOS 0 [0,3,12] [(0,.v (.int .i64 z)),(3,.v (.string out)),(12,.v (.slice (some ⟨g3,0,none⟩) 1 1))] (.string (bstr ([IntKind.u8.wrap (IntKind.i64.wrap (48 + (Int.tmod z 10)))] : List Int))) rfl (fun _ _ _ ww hr => act_b2s (e := 5) ([IntKind.u8.wrap (IntKind.i64.wrap (48 + (Int.tmod z 10)))] : List Int) hr.1 rfl (by kernel_rfl) (by kernel_rfl) (by kernel_rfl) rfl (rowF_sl (hr.2.fact (rowF w.heap.size 5 1 (.slice (some ⟨g3,0,none⟩) 1 1) (([IntKind.u8.wrap (IntKind.i64.wrap (48 + (Int.tmod z 10)))] : List Int).map byteRow)) (by simp)).1)) ?_
 refine kOS 1 [0,3,13,14] [(0,.v (.int .i64 z)),(3,.v (.string out)),(13,.v (.string (bstr ([IntKind.u8.wrap (IntKind.i64.wrap (48 + (Int.tmod z 10)))] : List Int)))),(14,.v (.string out))] (.string ((bstr ([IntKind.u8.wrap (IntKind.i64.wrap (48 + (Int.tmod z 10)))] : List Int)) ++ out)) rfl (fun _ _ _ ww hr => act_bin hr.1 rfl (by kernel_rfl) (by kernel_rfl) (str_add (mark_sz hz hR hk) ww)) ?_
 refine kRS 1 [0,3] [(0,.v (.int .i64 z)),(3,.v (.string ((bstr ([IntKind.u8.wrap (IntKind.i64.wrap (48 + (Int.tmod z 10)))] : List Int)) ++ out)))] ?_
 refine xl_eq (st' := ⟨[(0,.v (.int .i64 z)),(3,.v (.string ((bstr ([IntKind.u8.wrap (48 + z.tmod 10)] : List Int)) ++ out)))],[],[],[rowF w.heap.size 5 1 (.slice (some ⟨g3,0,none⟩) 1 1) (([IntKind.u8.wrap (48 + z.tmod 10)] : List Int).map byteRow)]⟩) (by rw [show (IntKind.i64.wrap (48 + (Int.tmod z 10))) = (48 + z.tmod 10) from wrap_tmod hz] <;> rfl) ?_
 refine kES [0,3] [(0,.v (.int .i64 z)),(3,.v (.string ((bstr ([IntKind.u8.wrap (48 + z.tmod 10)] : List Int)) ++ out)))] ?_
 refine kG ?_
 refine kOS 1 [0,3,16] [(0,.v (.int .i64 z)),(3,.v (.string ((bstr ([IntKind.u8.wrap (48 + z.tmod 10)] : List Int)) ++ out))),(16,.v (.int .i64 z))] (.int .i64 (IntKind.i64.wrap (Int.tdiv z 10))) rfl (fun _ _ _ ww hr => act_bin hr.1 rfl (by kernel_rfl) (by kernel_rfl) (quo_run (by decide) ww)) ?_
 refine kRS 1 [0,3] [(0,.v (.int .i64 (IntKind.i64.wrap (Int.tdiv z 10)))),(3,.v (.string ((bstr ([IntKind.u8.wrap (48 + z.tmod 10)] : List Int)) ++ out)))] ?_
 refine xl_eqS (t' := [(0,.v (.int .i64 (z.tdiv 10))),(3,.v (.string ((bstr ([IntKind.u8.wrap (48 + z.tmod 10)] : List Int)) ++ out)))]) (by rw [show (IntKind.i64.wrap (Int.tdiv z 10)) = (z.tdiv 10) from wrap_tdiv hz hR hk]) ?_
 refine kES [0,3] [(0,.v (.int .i64 (z.tdiv 10))),(3,.v (.string ((bstr ([IntKind.u8.wrap (48 + z.tmod 10)] : List Int)) ++ out)))] ?_
 exact ⟨⟨(z.tdiv 10,bstr [IntKind.u8.wrap (48 + z.tmod 10)] ++ out),⟨markLoop_step hz HK,mark_room hz hR⟩⟩,(wk_pick [] [] (by kernel_rfl) (by kernel_rfl)).trans <| kF 0 0 [0,3],by show (fun (z : Int) (out : ByteArray) => z.toNat) (z.tdiv 10) (bstr [IntKind.u8.wrap (48 + z.tmod 10)] ++ out) < z.toNat; exact mark_dec hz⟩
 have h2p := of_decide_eq_false h2
 have hz : ¬ 0 < z := by simpa using h2
 have hE := markLoop_end hz HK
 refine xw_exit ?_
 refine kQ ?_
 refine kOS 1 [18] [(18,.v (.string out))] (.string ((⟨#[109]⟩ : ByteArray) ++ out)) rfl (fun _ _ _ ww hr => act_bin hr.1 rfl (by kernel_rfl) (by kernel_rfl) (str_add (mark_sz0 hR hk) ww)) ?_
 refine kES [2] [(2,.v (.string ((⟨#[109]⟩ : ByteArray) ++ out)))] ?_
 refine kR ?_
 have hmod : markText k = ((⟨#[109]⟩ : ByteArray) ++ out) := by first | rfl | (simp [markText, *]; done) | (rw [markText,if_neg (by omega),hE])
 exact ⟨[.string ((⟨#[109]⟩ : ByteArray) ++ out)],by kernel_rfl,fun w' hb hf => by rw [hmod]; exact ⟨rfl,hb⟩⟩
theorem ymarkPieceS_c (v : Value) (l : List Pce) (k : Int) (w : World) (B : Nat) (hB : B ≤ w.heap.size) (h : Own w B v 2 (l.map pceCells)) (hk0 : 0 ≤ k) (hk : k ≤ 4503599627370496) (hl : l.length ≤ 1048576) : Calls Tryz.prog 105 #[v, .int .i64 k] w fun e w' => e = .returned (.int .i64 (k + 2 * (l.length : Int))) ∧ Own w' B v 2 ((marks mkP 2 k l.length).map pceCells) ∧ Chgd (ownF B v 2 (l.map pceCells)).blk w w' := by
 obtain ⟨A,cap,hv⟩ := h.form
 rw [List.length_map] at hv; subst hv
 refine x_callsM (args := [.slice A l.length cap,.int .i64 k]) (fn := Tryz.f105) [ownF B (.slice A l.length cap) 2 (l.map pceCells),frF w (ownF B (.slice A l.length cap) 2 (l.map pceCells)).blk] B Tryz.func105 rfl Tryz.ntmps105 rfl hB (by simp only [List.mem_cons,List.not_mem_nil,or_false,forall_eq_or_imp,forall_eq]; exact ⟨h,frF_start w _⟩) apart_fr ?_
 refine kQ ?_
 refine kEF [0,1] ⟨[(0,.v (.slice A l.length cap)),(1,.v (.int .i64 k))],[],[],[ownF B (.slice A l.length cap) 2 (l.map pceCells),frF w (ownF B (.slice A l.length cap) 2 (l.map pceCells)).blk]⟩ ?_
 refine kS ?_
 refine kQ ?_
 refine kES [0,1,5] [(0,.v (.slice A l.length cap)),(1,.v (.int .i64 k)),(5,.v (.int .i64 0))] ?_
 refine xw_block ?_
 have e0 : k + 2 * ((0 : Nat) : Int) = k := by omega
 refine xw_eq (st' := ⟨[(0,.v (.slice A l.length cap)),(1,.v (.int .i64 (k + 2 * ((0 : Nat) : Int)))),(5,.v (.int .i64 0))],[],[],[ownF B (.slice A l.length cap) 2 (l.map pceCells),frF w (ownF B (.slice A l.length cap) 2 (l.map pceCells)).blk]⟩) (by rw [e0]) ?_
 refine xw_loopW (α := {x : Nat // (fun (i : Nat) => i ≤ l.length) x}) (fun x => (fun (i : Nat) => (⟨[(0,.v (.slice A l.length cap)),(1,.v (.int .i64 (k + 2 * (i : Int)))),(5,.v (.int .i64 (i : Int)))],[],[],[ownF B (.slice A l.length cap) 2 ((marks mkP 2 k i ++ l.drop i).map pceCells),frF w (ownF B (.slice A l.length cap) 2 (l.map pceCells)).blk]⟩ : St)) x.1) (fun x => (fun (i : Nat) => l.length - i) x.1) ⟨(0),Nat.zero_le _⟩ (kF 0 0 [0,1,5]) ?_
 rintro ⟨i,hi⟩
 try dsimp only
 try dsimp only at hi
 refine kS ?_
 refine kQ ?_
 refine kES [0,1,5,9] [(0,.v (.slice A l.length cap)),(1,.v (.int .i64 (k + 2 * (i : Int)))),(5,.v (.int .i64 (i : Int))),(9,.v (.bool (decide ((i : Int) < ((l.length : Nat) : Int)))))] ?_
 refine kC (decide ((i : Int) < ((l.length : Nat) : Int))) (fun h1 => ?_) (fun h1 => ?_)
 have h1p := of_decide_eq_true h1
 have hlt : i < l.length := by simpa using h1
 obtain ⟨b,hb⟩ : ∃ b,b = k + 2 * (i : Int) := ⟨_,rfl⟩
 rw [← hb]
 obtain ⟨x,hx⟩ : ∃ x,l[i]? = some x := ⟨_,List.getElem?_eq_getElem hlt⟩
 refine xw_fact0 (g := ownF B (.slice A l.length cap) 2 (((marks mkP 2 k i ++ l.drop i).map pceCells).set i [.int .i64 x.off,.string x.text])) (congrArg (fun z => ownF B (.slice A l.length cap) 2 z) (mark_same (f := pceCells) (mk := mkP) (c := 2) (k := k) hx)) ?_
 refine kK ?_
 refine kS ?_
 refine xw_block ?_
 refine kQ ?_
 refine xl_elem (kd := .i64) (T := 39) (e := 85) (K := 2) (A := A) (len := l.length) (cap := cap) (rs := (((marks mkP 2 k i ++ l.drop i).map pceCells).set i [.int .i64 x.off,.string x.text])) 3 [0,1,5,12,13,14] ⟨[(0,.v (.slice A l.length cap)),(1,.v (.int .i64 b)),(5,.v (.int .i64 (i : Int))),(12,.v (.slice A l.length cap)),(13,.v (.int .i64 (i : Int))),(14,.v (.int .i64 b))],[],[],[ownF B (.slice A l.length cap) 2 (((marks mkP 2 k i ++ l.drop i).map pceCells).set i [.int .i64 x.off,.string x.text]),frF w (ownF B (.slice A l.length cap) 2 (l.map pceCells)).blk]⟩ i (ownF B (.slice A l.length cap) 2 (((marks mkP 2 k i ++ l.drop i).map pceCells).set i [.int .i64 x.off,.string x.text])) (by kernel_rfl) rfl (by kernel_rfl) (by kernel_rfl) rfl (by kernel_rfl) (by kernel_rfl) (by kernel_rfl) (by kernel_rfl) hlt (by simp) (fun ww h => Own.sl h) (by rw [List.length_set,mark_ln hi]; exact hlt) ?_
 intro b2 o3 hA4
 refine kOF 0 [0,1,5,14,15] ⟨[(0,.v (.slice A l.length cap)),(1,.v (.int .i64 b)),(5,.v (.int .i64 (i : Int))),(14,.v (.int .i64 b)),(15,.v (.pointer (some ⟨b2,o3 + i * 2,none⟩)))],[],[],[ownF B (.slice A l.length cap) 2 (((marks mkP 2 k i ++ l.drop i).map pceCells).set i [.int .i64 x.off,.string x.text]),frF w (ownF B (.slice A l.length cap) 2 (l.map pceCells)).blk]⟩ (.pointer (some ⟨b2,o3 + i * 2 + 0,none⟩)) rfl (fun _ _ _ ww hr => fld_run (sz := 1) hr rfl Tryz.underlying85 rfl (by kernel_rfl) rfl rfl (by first | rfl | omega)) ?_
 refine xl_stE (K := 2) (po := 0) (B := B) (rs := ((marks mkP 2 k i ++ l.drop i).map pceCells)) (row' := [.int .i64 b,.string x.text]) 0 [0,1,5,14,16] ⟨[(0,.v (.slice A l.length cap)),(1,.v (.int .i64 b)),(5,.v (.int .i64 (i : Int))),(14,.v (.int .i64 b)),(16,.v (.pointer (some ⟨b2,o3 + i * 2 + 0,none⟩)))],[],[],[ownF B (.slice A l.length cap) 2 (((marks mkP 2 k i ++ l.drop i).map pceCells).set i [.int .i64 x.off,.string x.text]),frF w (ownF B (.slice A l.length cap) 2 (l.map pceCells)).blk]⟩ i [.int .i64 x.off,.string x.text] 0 (by kernel_rfl) rfl (by kernel_rfl) rfl rfl rfl rfl (by kernel_rfl) (by kernel_rfl) rfl (cutW_le w B) hA4 (by rw [mark_ln hi]; exact hlt) (fun r hr => by obtain ⟨y,_,rfl⟩ := List.mem_map.1 hr; rfl) (by kernel_rfl) (by kernel_rfl) rfl rfl ?_
 refine kEF [0,1,5] ⟨[(0,.v (.slice A l.length cap)),(1,.v (.int .i64 b)),(5,.v (.int .i64 (i : Int)))],[],[],[ownF B (.slice A l.length cap) 2 (((marks mkP 2 k i ++ l.drop i).map pceCells).set i [.int .i64 b,.string x.text]),frF w (ownF B (.slice A l.length cap) 2 (l.map pceCells)).blk]⟩ ?_
 refine kQ ?_
 refine kRS 3 [0,1,5] [(0,.v (.slice A l.length cap)),(1,.v (.int .i64 (IntKind.i64.wrap (b + 1)))),(5,.v (.int .i64 (i : Int)))] ?_
 refine xl_eqS (t' := [(0,.v (.slice A l.length cap)),(1,.v (.int .i64 (b + 1))),(5,.v (.int .i64 (i : Int)))]) (by rw [show (IntKind.i64.wrap (b + 1)) = (b + 1) from wrap_id (by omega) (by omega)]) ?_
 refine kES [0,1,5] [(0,.v (.slice A l.length cap)),(1,.v (.int .i64 (b + 1))),(5,.v (.int .i64 (i : Int)))] ?_
 refine kQ ?_
 refine kCS 3 [0,1,5,19,20,21] [(0,.v (.slice A l.length cap)),(1,.v (.int .i64 (b + 1))),(5,.v (.int .i64 (i : Int))),(19,.v (.slice A l.length cap)),(20,.v (.int .i64 (i : Int))),(21,.v (.int .i64 (b + 1)))] 54 [.int .i64 (b + 1)] (some 22) rfl (xc_b fun ww hf => ymarkText_c (b + 1) ww  (by omega)) ?_
 intro _
 refine xl_elem (kd := .i64) (T := 39) (e := 85) (K := 2) (A := A) (len := l.length) (cap := cap) (rs := (((marks mkP 2 k i ++ l.drop i).map pceCells).set i [.int .i64 b,.string x.text])) 0 [0,1,5,19,20,22] ⟨[(0,.v (.slice A l.length cap)),(1,.v (.int .i64 (b + 1))),(5,.v (.int .i64 (i : Int))),(19,.v (.slice A l.length cap)),(20,.v (.int .i64 (i : Int))),(22,.v (.string (markText (b + 1))))],[],[],[ownF B (.slice A l.length cap) 2 (((marks mkP 2 k i ++ l.drop i).map pceCells).set i [.int .i64 b,.string x.text]),frF w (ownF B (.slice A l.length cap) 2 (l.map pceCells)).blk]⟩ i (ownF B (.slice A l.length cap) 2 (((marks mkP 2 k i ++ l.drop i).map pceCells).set i [.int .i64 b,.string x.text])) (by kernel_rfl) rfl (by kernel_rfl) (by kernel_rfl) rfl (by kernel_rfl) (by kernel_rfl) (by kernel_rfl) (by kernel_rfl) hlt (by simp) (fun ww h => Own.sl h) (by rw [List.length_set,mark_ln hi]; exact hlt) ?_
 intro b5 o6 hA7
 refine kOF 0 [0,1,5,22,23] ⟨[(0,.v (.slice A l.length cap)),(1,.v (.int .i64 (b + 1))),(5,.v (.int .i64 (i : Int))),(22,.v (.string (markText (b + 1)))),(23,.v (.pointer (some ⟨b5,o6 + i * 2,none⟩)))],[],[],[ownF B (.slice A l.length cap) 2 (((marks mkP 2 k i ++ l.drop i).map pceCells).set i [.int .i64 b,.string x.text]),frF w (ownF B (.slice A l.length cap) 2 (l.map pceCells)).blk]⟩ (.pointer (some ⟨b5,o6 + i * 2 + 1,none⟩)) rfl (fun _ _ _ ww hr => fld_run (sz := 1) hr rfl Tryz.underlying85 rfl (by kernel_rfl) rfl rfl (by first | rfl | omega)) ?_
 refine xl_stE (K := 2) (po := 1) (B := B) (rs := ((marks mkP 2 k i ++ l.drop i).map pceCells)) (row' := [.int .i64 b,.string (markText (b + 1))]) 0 [0,1,5,22,24] ⟨[(0,.v (.slice A l.length cap)),(1,.v (.int .i64 (b + 1))),(5,.v (.int .i64 (i : Int))),(22,.v (.string (markText (b + 1)))),(24,.v (.pointer (some ⟨b5,o6 + i * 2 + 1,none⟩)))],[],[],[ownF B (.slice A l.length cap) 2 (((marks mkP 2 k i ++ l.drop i).map pceCells).set i [.int .i64 b,.string x.text]),frF w (ownF B (.slice A l.length cap) 2 (l.map pceCells)).blk]⟩ i [.int .i64 b,.string x.text] 0 (by kernel_rfl) rfl (by kernel_rfl) rfl rfl rfl rfl (by kernel_rfl) (by kernel_rfl) rfl (cutW_le w B) hA7 (by rw [mark_ln hi]; exact hlt) (fun r hr => by obtain ⟨y,_,rfl⟩ := List.mem_map.1 hr; rfl) (by kernel_rfl) (by kernel_rfl) rfl rfl ?_
 refine kEF [0,1,5] ⟨[(0,.v (.slice A l.length cap)),(1,.v (.int .i64 (b + 1))),(5,.v (.int .i64 (i : Int)))],[],[],[ownF B (.slice A l.length cap) 2 (((marks mkP 2 k i ++ l.drop i).map pceCells).set i [.int .i64 b,.string (markText (b + 1))]),frF w (ownF B (.slice A l.length cap) 2 (l.map pceCells)).blk]⟩ ?_
 refine kG ?_
 refine kRS 3 [0,1,5] [(0,.v (.slice A l.length cap)),(1,.v (.int .i64 (IntKind.i64.wrap (b + 1 + 1)))),(5,.v (.int .i64 (i : Int)))] ?_
 refine xl_eqS (t' := [(0,.v (.slice A l.length cap)),(1,.v (.int .i64 (b + 2))),(5,.v (.int .i64 (i : Int)))]) (by rw [show (IntKind.i64.wrap (b + 1 + 1)) = (b + 2) from wrap_to (by omega) (by omega) (by omega)]) ?_
 refine kES [0,1,5] [(0,.v (.slice A l.length cap)),(1,.v (.int .i64 (b + 2))),(5,.v (.int .i64 (i : Int)))] ?_
 refine kG ?_
 refine kRS 3 [0,1,5] [(0,.v (.slice A l.length cap)),(1,.v (.int .i64 (b + 2))),(5,.v (.int .i64 (IntKind.i64.wrap ((i : Int) + 1))))] ?_
 refine xl_eqS (t' := [(0,.v (.slice A l.length cap)),(1,.v (.int .i64 (b + 2))),(5,.v (.int .i64 ((i : Int) + 1)))]) (by rw [show (IntKind.i64.wrap ((i : Int) + 1)) = ((i : Int) + 1) from wrap_id (by omega) (by omega)]) ?_
 refine kES [0,1,5] [(0,.v (.slice A l.length cap)),(1,.v (.int .i64 (b + 2))),(5,.v (.int .i64 ((i : Int) + 1)))] ?_
 have e : b + 2 = k + 2 * ((i + 1 : Nat) : Int) := by omega
 rw [e]
 subst hb
 exact ⟨⟨(i + 1),hlt⟩,(wk_fact0 (congrArg (fun z => ownF B (.slice A l.length cap) 2 z) (mark_next (f := pceCells) (mk := mkP) (c := 2) (k := k) hlt))).trans <| kF 0 0 [0,1,5],by show (fun (i : Nat) => l.length - i) (i + 1) < l.length - i; (dsimp only; omega)⟩
 have h1p := of_decide_eq_false h1
 have hge : i = l.length := by simp at h1; omega
 refine xw_exit ?_
 refine kQ ?_
 refine kES [4] [(4,.v (.int .i64 (k + 2 * (i : Int))))] ?_
 refine kR ?_
 subst hge
 exact ⟨[.int .i64 (k + 2 * (l.length : Int))],by kernel_rfl,fun w' hb hf => ⟨ret_int (by simp),by have := hf (ownF B (.slice A l.length cap) 2 ((marks mkP 2 k l.length ++ l.drop l.length).map pceCells)) (by simp); rw [List.drop_length,List.append_nil] at this; exact this,frF_chgd (hf (frF w (ownF B (.slice A l.length cap) 2 (l.map pceCells)).blk) (by simp)) hb rfl rfl rfl⟩⟩
theorem ymarkSegmentS_c (v : Value) (l : List Seg) (k : Int) (w : World) (B : Nat) (hB : B ≤ w.heap.size) (h : Own w B v 13 (l.map segCells)) (hk0 : 0 ≤ k) (hk : k ≤ 4503599627370496) (hl : l.length ≤ 1048576) : Calls Tryz.prog 15 #[v, .int .i64 k] w fun e w' => e = .returned (.int .i64 (k + 13 * (l.length : Int))) ∧ Own w' B v 13 ((marks mkS 13 k l.length).map segCells) ∧ Chgd (ownF B v 13 (l.map segCells)).blk w w' := by
 obtain ⟨A,cap,hv⟩ := h.form
 rw [List.length_map] at hv; subst hv
 refine x_callsM (args := [.slice A l.length cap,.int .i64 k]) (fn := Tryz.f15) [ownF B (.slice A l.length cap) 13 (l.map segCells),frF w (ownF B (.slice A l.length cap) 13 (l.map segCells)).blk] B Tryz.func15 rfl Tryz.ntmps15 rfl hB (by simp only [List.mem_cons,List.not_mem_nil,or_false,forall_eq_or_imp,forall_eq]; exact ⟨h,frF_start w _⟩) apart_fr ?_
 refine kQ ?_
 refine kEF [0,1] ⟨[(0,.v (.slice A l.length cap)),(1,.v (.int .i64 k))],[],[],[ownF B (.slice A l.length cap) 13 (l.map segCells),frF w (ownF B (.slice A l.length cap) 13 (l.map segCells)).blk]⟩ ?_
 refine kS ?_
 refine kQ ?_
 refine kES [0,1,5] [(0,.v (.slice A l.length cap)),(1,.v (.int .i64 k)),(5,.v (.int .i64 0))] ?_
 refine xw_block ?_
 have e0 : k + 13 * ((0 : Nat) : Int) = k := by omega
 refine xw_eq (st' := ⟨[(0,.v (.slice A l.length cap)),(1,.v (.int .i64 (k + 13 * ((0 : Nat) : Int)))),(5,.v (.int .i64 0))],[],[],[ownF B (.slice A l.length cap) 13 (l.map segCells),frF w (ownF B (.slice A l.length cap) 13 (l.map segCells)).blk]⟩) (by rw [e0]) ?_
 refine xw_loopW (α := {x : Nat // (fun (i : Nat) => i ≤ l.length) x}) (fun x => (fun (i : Nat) => (⟨[(0,.v (.slice A l.length cap)),(1,.v (.int .i64 (k + 13 * (i : Int)))),(5,.v (.int .i64 (i : Int)))],[],[],[ownF B (.slice A l.length cap) 13 ((marks mkS 13 k i ++ l.drop i).map segCells),frF w (ownF B (.slice A l.length cap) 13 (l.map segCells)).blk]⟩ : St)) x.1) (fun x => (fun (i : Nat) => l.length - i) x.1) ⟨(0),Nat.zero_le _⟩ (kF 0 0 [0,1,5]) ?_
 rintro ⟨i,hi⟩
 try dsimp only
 try dsimp only at hi
 refine kS ?_
 refine kQ ?_
 refine kES [0,1,5,9] [(0,.v (.slice A l.length cap)),(1,.v (.int .i64 (k + 13 * (i : Int)))),(5,.v (.int .i64 (i : Int))),(9,.v (.bool (decide ((i : Int) < ((l.length : Nat) : Int)))))] ?_
 refine kC (decide ((i : Int) < ((l.length : Nat) : Int))) (fun h1 => ?_) (fun h1 => ?_)
 have h1p := of_decide_eq_true h1
 have hlt : i < l.length := by simpa using h1
 obtain ⟨b,hb⟩ : ∃ b,b = k + 13 * (i : Int) := ⟨_,rfl⟩
 rw [← hb]
 obtain ⟨x,hx⟩ : ∃ x,l[i]? = some x := ⟨_,List.getElem?_eq_getElem hlt⟩
 refine xw_fact0 (g := ownF B (.slice A l.length cap) 13 (((marks mkS 13 k i ++ l.drop i).map segCells).set i [.int .i64 x.src,.int .i64 x.dst,.int .i64 x.seq,.int .i64 x.ack,.int .i64 x.flags,.int .i64 x.window,.int .i64 x.o.mss,.int .i64 x.o.scale,.bool x.o.sack,.bool x.o.stamp,.int .i64 x.o.val,.int .i64 x.o.echo,.string x.body])) (congrArg (fun z => ownF B (.slice A l.length cap) 13 z) (mark_same (f := segCells) (mk := mkS) (c := 13) (k := k) hx)) ?_
 refine kK ?_
 refine kS ?_
 refine xw_block ?_
 refine kQ ?_
 refine xl_elem (kd := .i64) (T := 45) (e := 50) (K := 13) (A := A) (len := l.length) (cap := cap) (rs := (((marks mkS 13 k i ++ l.drop i).map segCells).set i [.int .i64 x.src,.int .i64 x.dst,.int .i64 x.seq,.int .i64 x.ack,.int .i64 x.flags,.int .i64 x.window,.int .i64 x.o.mss,.int .i64 x.o.scale,.bool x.o.sack,.bool x.o.stamp,.int .i64 x.o.val,.int .i64 x.o.echo,.string x.body])) 3 [0,1,5,12,13,14] ⟨[(0,.v (.slice A l.length cap)),(1,.v (.int .i64 b)),(5,.v (.int .i64 (i : Int))),(12,.v (.slice A l.length cap)),(13,.v (.int .i64 (i : Int))),(14,.v (.int .i64 b))],[],[],[ownF B (.slice A l.length cap) 13 (((marks mkS 13 k i ++ l.drop i).map segCells).set i [.int .i64 x.src,.int .i64 x.dst,.int .i64 x.seq,.int .i64 x.ack,.int .i64 x.flags,.int .i64 x.window,.int .i64 x.o.mss,.int .i64 x.o.scale,.bool x.o.sack,.bool x.o.stamp,.int .i64 x.o.val,.int .i64 x.o.echo,.string x.body]),frF w (ownF B (.slice A l.length cap) 13 (l.map segCells)).blk]⟩ i (ownF B (.slice A l.length cap) 13 (((marks mkS 13 k i ++ l.drop i).map segCells).set i [.int .i64 x.src,.int .i64 x.dst,.int .i64 x.seq,.int .i64 x.ack,.int .i64 x.flags,.int .i64 x.window,.int .i64 x.o.mss,.int .i64 x.o.scale,.bool x.o.sack,.bool x.o.stamp,.int .i64 x.o.val,.int .i64 x.o.echo,.string x.body])) (by kernel_rfl) rfl (by kernel_rfl) (by kernel_rfl) rfl (by kernel_rfl) (by kernel_rfl) (by kernel_rfl) (by kernel_rfl) hlt (by simp) (fun ww h => Own.sl h) (by rw [List.length_set,mark_ln hi]; exact hlt) ?_
 intro b2 o3 hA4
 refine kOF 0 [0,1,5,14,15] ⟨[(0,.v (.slice A l.length cap)),(1,.v (.int .i64 b)),(5,.v (.int .i64 (i : Int))),(14,.v (.int .i64 b)),(15,.v (.pointer (some ⟨b2,o3 + i * 13,none⟩)))],[],[],[ownF B (.slice A l.length cap) 13 (((marks mkS 13 k i ++ l.drop i).map segCells).set i [.int .i64 x.src,.int .i64 x.dst,.int .i64 x.seq,.int .i64 x.ack,.int .i64 x.flags,.int .i64 x.window,.int .i64 x.o.mss,.int .i64 x.o.scale,.bool x.o.sack,.bool x.o.stamp,.int .i64 x.o.val,.int .i64 x.o.echo,.string x.body]),frF w (ownF B (.slice A l.length cap) 13 (l.map segCells)).blk]⟩ (.pointer (some ⟨b2,o3 + i * 13 + 0,none⟩)) rfl (fun _ _ _ ww hr => fld_run (sz := 1) hr rfl Tryz.underlying50 rfl (by kernel_rfl) rfl rfl (by first | rfl | omega)) ?_
 refine xl_stE (K := 13) (po := 0) (B := B) (rs := ((marks mkS 13 k i ++ l.drop i).map segCells)) (row' := [.int .i64 b,.int .i64 x.dst,.int .i64 x.seq,.int .i64 x.ack,.int .i64 x.flags,.int .i64 x.window,.int .i64 x.o.mss,.int .i64 x.o.scale,.bool x.o.sack,.bool x.o.stamp,.int .i64 x.o.val,.int .i64 x.o.echo,.string x.body]) 0 [0,1,5,14,16] ⟨[(0,.v (.slice A l.length cap)),(1,.v (.int .i64 b)),(5,.v (.int .i64 (i : Int))),(14,.v (.int .i64 b)),(16,.v (.pointer (some ⟨b2,o3 + i * 13 + 0,none⟩)))],[],[],[ownF B (.slice A l.length cap) 13 (((marks mkS 13 k i ++ l.drop i).map segCells).set i [.int .i64 x.src,.int .i64 x.dst,.int .i64 x.seq,.int .i64 x.ack,.int .i64 x.flags,.int .i64 x.window,.int .i64 x.o.mss,.int .i64 x.o.scale,.bool x.o.sack,.bool x.o.stamp,.int .i64 x.o.val,.int .i64 x.o.echo,.string x.body]),frF w (ownF B (.slice A l.length cap) 13 (l.map segCells)).blk]⟩ i [.int .i64 x.src,.int .i64 x.dst,.int .i64 x.seq,.int .i64 x.ack,.int .i64 x.flags,.int .i64 x.window,.int .i64 x.o.mss,.int .i64 x.o.scale,.bool x.o.sack,.bool x.o.stamp,.int .i64 x.o.val,.int .i64 x.o.echo,.string x.body] 0 (by kernel_rfl) rfl (by kernel_rfl) rfl rfl rfl rfl (by kernel_rfl) (by kernel_rfl) rfl (cutW_le w B) hA4 (by rw [mark_ln hi]; exact hlt) (fun r hr => by obtain ⟨y,_,rfl⟩ := List.mem_map.1 hr; rfl) (by kernel_rfl) (by kernel_rfl) rfl rfl ?_
 refine kEF [0,1,5] ⟨[(0,.v (.slice A l.length cap)),(1,.v (.int .i64 b)),(5,.v (.int .i64 (i : Int)))],[],[],[ownF B (.slice A l.length cap) 13 (((marks mkS 13 k i ++ l.drop i).map segCells).set i [.int .i64 b,.int .i64 x.dst,.int .i64 x.seq,.int .i64 x.ack,.int .i64 x.flags,.int .i64 x.window,.int .i64 x.o.mss,.int .i64 x.o.scale,.bool x.o.sack,.bool x.o.stamp,.int .i64 x.o.val,.int .i64 x.o.echo,.string x.body]),frF w (ownF B (.slice A l.length cap) 13 (l.map segCells)).blk]⟩ ?_
 refine kQ ?_
 refine kRS 3 [0,1,5] [(0,.v (.slice A l.length cap)),(1,.v (.int .i64 (IntKind.i64.wrap (b + 1)))),(5,.v (.int .i64 (i : Int)))] ?_
 refine xl_eqS (t' := [(0,.v (.slice A l.length cap)),(1,.v (.int .i64 (b + 1))),(5,.v (.int .i64 (i : Int)))]) (by rw [show (IntKind.i64.wrap (b + 1)) = (b + 1) from wrap_id (by omega) (by omega)]) ?_
 refine kES [0,1,5] [(0,.v (.slice A l.length cap)),(1,.v (.int .i64 (b + 1))),(5,.v (.int .i64 (i : Int)))] ?_
 refine kQ ?_
 refine xl_elem (kd := .i64) (T := 45) (e := 50) (K := 13) (A := A) (len := l.length) (cap := cap) (rs := (((marks mkS 13 k i ++ l.drop i).map segCells).set i [.int .i64 b,.int .i64 x.dst,.int .i64 x.seq,.int .i64 x.ack,.int .i64 x.flags,.int .i64 x.window,.int .i64 x.o.mss,.int .i64 x.o.scale,.bool x.o.sack,.bool x.o.stamp,.int .i64 x.o.val,.int .i64 x.o.echo,.string x.body])) 3 [0,1,5,19,20,21] ⟨[(0,.v (.slice A l.length cap)),(1,.v (.int .i64 (b + 1))),(5,.v (.int .i64 (i : Int))),(19,.v (.slice A l.length cap)),(20,.v (.int .i64 (i : Int))),(21,.v (.int .i64 (b + 1)))],[],[],[ownF B (.slice A l.length cap) 13 (((marks mkS 13 k i ++ l.drop i).map segCells).set i [.int .i64 b,.int .i64 x.dst,.int .i64 x.seq,.int .i64 x.ack,.int .i64 x.flags,.int .i64 x.window,.int .i64 x.o.mss,.int .i64 x.o.scale,.bool x.o.sack,.bool x.o.stamp,.int .i64 x.o.val,.int .i64 x.o.echo,.string x.body]),frF w (ownF B (.slice A l.length cap) 13 (l.map segCells)).blk]⟩ i (ownF B (.slice A l.length cap) 13 (((marks mkS 13 k i ++ l.drop i).map segCells).set i [.int .i64 b,.int .i64 x.dst,.int .i64 x.seq,.int .i64 x.ack,.int .i64 x.flags,.int .i64 x.window,.int .i64 x.o.mss,.int .i64 x.o.scale,.bool x.o.sack,.bool x.o.stamp,.int .i64 x.o.val,.int .i64 x.o.echo,.string x.body])) (by kernel_rfl) rfl (by kernel_rfl) (by kernel_rfl) rfl (by kernel_rfl) (by kernel_rfl) (by kernel_rfl) (by kernel_rfl) hlt (by simp) (fun ww h => Own.sl h) (by rw [List.length_set,mark_ln hi]; exact hlt) ?_
 intro b5 o6 hA7
 refine kOF 0 [0,1,5,21,22] ⟨[(0,.v (.slice A l.length cap)),(1,.v (.int .i64 (b + 1))),(5,.v (.int .i64 (i : Int))),(21,.v (.int .i64 (b + 1))),(22,.v (.pointer (some ⟨b5,o6 + i * 13,none⟩)))],[],[],[ownF B (.slice A l.length cap) 13 (((marks mkS 13 k i ++ l.drop i).map segCells).set i [.int .i64 b,.int .i64 x.dst,.int .i64 x.seq,.int .i64 x.ack,.int .i64 x.flags,.int .i64 x.window,.int .i64 x.o.mss,.int .i64 x.o.scale,.bool x.o.sack,.bool x.o.stamp,.int .i64 x.o.val,.int .i64 x.o.echo,.string x.body]),frF w (ownF B (.slice A l.length cap) 13 (l.map segCells)).blk]⟩ (.pointer (some ⟨b5,o6 + i * 13 + 1,none⟩)) rfl (fun _ _ _ ww hr => fld_run (sz := 1) hr rfl Tryz.underlying50 rfl (by kernel_rfl) rfl rfl (by first | rfl | omega)) ?_
 refine xl_stE (K := 13) (po := 1) (B := B) (rs := ((marks mkS 13 k i ++ l.drop i).map segCells)) (row' := [.int .i64 b,.int .i64 (b + 1),.int .i64 x.seq,.int .i64 x.ack,.int .i64 x.flags,.int .i64 x.window,.int .i64 x.o.mss,.int .i64 x.o.scale,.bool x.o.sack,.bool x.o.stamp,.int .i64 x.o.val,.int .i64 x.o.echo,.string x.body]) 0 [0,1,5,21,23] ⟨[(0,.v (.slice A l.length cap)),(1,.v (.int .i64 (b + 1))),(5,.v (.int .i64 (i : Int))),(21,.v (.int .i64 (b + 1))),(23,.v (.pointer (some ⟨b5,o6 + i * 13 + 1,none⟩)))],[],[],[ownF B (.slice A l.length cap) 13 (((marks mkS 13 k i ++ l.drop i).map segCells).set i [.int .i64 b,.int .i64 x.dst,.int .i64 x.seq,.int .i64 x.ack,.int .i64 x.flags,.int .i64 x.window,.int .i64 x.o.mss,.int .i64 x.o.scale,.bool x.o.sack,.bool x.o.stamp,.int .i64 x.o.val,.int .i64 x.o.echo,.string x.body]),frF w (ownF B (.slice A l.length cap) 13 (l.map segCells)).blk]⟩ i [.int .i64 b,.int .i64 x.dst,.int .i64 x.seq,.int .i64 x.ack,.int .i64 x.flags,.int .i64 x.window,.int .i64 x.o.mss,.int .i64 x.o.scale,.bool x.o.sack,.bool x.o.stamp,.int .i64 x.o.val,.int .i64 x.o.echo,.string x.body] 0 (by kernel_rfl) rfl (by kernel_rfl) rfl rfl rfl rfl (by kernel_rfl) (by kernel_rfl) rfl (cutW_le w B) hA7 (by rw [mark_ln hi]; exact hlt) (fun r hr => by obtain ⟨y,_,rfl⟩ := List.mem_map.1 hr; rfl) (by kernel_rfl) (by kernel_rfl) rfl rfl ?_
 refine kEF [0,1,5] ⟨[(0,.v (.slice A l.length cap)),(1,.v (.int .i64 (b + 1))),(5,.v (.int .i64 (i : Int)))],[],[],[ownF B (.slice A l.length cap) 13 (((marks mkS 13 k i ++ l.drop i).map segCells).set i [.int .i64 b,.int .i64 (b + 1),.int .i64 x.seq,.int .i64 x.ack,.int .i64 x.flags,.int .i64 x.window,.int .i64 x.o.mss,.int .i64 x.o.scale,.bool x.o.sack,.bool x.o.stamp,.int .i64 x.o.val,.int .i64 x.o.echo,.string x.body]),frF w (ownF B (.slice A l.length cap) 13 (l.map segCells)).blk]⟩ ?_
 refine kQ ?_
 refine kRS 3 [0,1,5] [(0,.v (.slice A l.length cap)),(1,.v (.int .i64 (IntKind.i64.wrap (b + 1 + 1)))),(5,.v (.int .i64 (i : Int)))] ?_
 refine xl_eqS (t' := [(0,.v (.slice A l.length cap)),(1,.v (.int .i64 (b + 2))),(5,.v (.int .i64 (i : Int)))]) (by rw [show (IntKind.i64.wrap (b + 1 + 1)) = (b + 2) from wrap_to (by omega) (by omega) (by omega)]) ?_
 refine kES [0,1,5] [(0,.v (.slice A l.length cap)),(1,.v (.int .i64 (b + 2))),(5,.v (.int .i64 (i : Int)))] ?_
 refine kQ ?_
 refine xl_elem (kd := .i64) (T := 45) (e := 50) (K := 13) (A := A) (len := l.length) (cap := cap) (rs := (((marks mkS 13 k i ++ l.drop i).map segCells).set i [.int .i64 b,.int .i64 (b + 1),.int .i64 x.seq,.int .i64 x.ack,.int .i64 x.flags,.int .i64 x.window,.int .i64 x.o.mss,.int .i64 x.o.scale,.bool x.o.sack,.bool x.o.stamp,.int .i64 x.o.val,.int .i64 x.o.echo,.string x.body])) 3 [0,1,5,26,27,28] ⟨[(0,.v (.slice A l.length cap)),(1,.v (.int .i64 (b + 2))),(5,.v (.int .i64 (i : Int))),(26,.v (.slice A l.length cap)),(27,.v (.int .i64 (i : Int))),(28,.v (.int .i64 (b + 2)))],[],[],[ownF B (.slice A l.length cap) 13 (((marks mkS 13 k i ++ l.drop i).map segCells).set i [.int .i64 b,.int .i64 (b + 1),.int .i64 x.seq,.int .i64 x.ack,.int .i64 x.flags,.int .i64 x.window,.int .i64 x.o.mss,.int .i64 x.o.scale,.bool x.o.sack,.bool x.o.stamp,.int .i64 x.o.val,.int .i64 x.o.echo,.string x.body]),frF w (ownF B (.slice A l.length cap) 13 (l.map segCells)).blk]⟩ i (ownF B (.slice A l.length cap) 13 (((marks mkS 13 k i ++ l.drop i).map segCells).set i [.int .i64 b,.int .i64 (b + 1),.int .i64 x.seq,.int .i64 x.ack,.int .i64 x.flags,.int .i64 x.window,.int .i64 x.o.mss,.int .i64 x.o.scale,.bool x.o.sack,.bool x.o.stamp,.int .i64 x.o.val,.int .i64 x.o.echo,.string x.body])) (by kernel_rfl) rfl (by kernel_rfl) (by kernel_rfl) rfl (by kernel_rfl) (by kernel_rfl) (by kernel_rfl) (by kernel_rfl) hlt (by simp) (fun ww h => Own.sl h) (by rw [List.length_set,mark_ln hi]; exact hlt) ?_
 intro b8 o9 hA10
 refine kOF 0 [0,1,5,28,29] ⟨[(0,.v (.slice A l.length cap)),(1,.v (.int .i64 (b + 2))),(5,.v (.int .i64 (i : Int))),(28,.v (.int .i64 (b + 2))),(29,.v (.pointer (some ⟨b8,o9 + i * 13,none⟩)))],[],[],[ownF B (.slice A l.length cap) 13 (((marks mkS 13 k i ++ l.drop i).map segCells).set i [.int .i64 b,.int .i64 (b + 1),.int .i64 x.seq,.int .i64 x.ack,.int .i64 x.flags,.int .i64 x.window,.int .i64 x.o.mss,.int .i64 x.o.scale,.bool x.o.sack,.bool x.o.stamp,.int .i64 x.o.val,.int .i64 x.o.echo,.string x.body]),frF w (ownF B (.slice A l.length cap) 13 (l.map segCells)).blk]⟩ (.pointer (some ⟨b8,o9 + i * 13 + 2,none⟩)) rfl (fun _ _ _ ww hr => fld_run (sz := 1) hr rfl Tryz.underlying50 rfl (by kernel_rfl) rfl rfl (by first | rfl | omega)) ?_
 refine xl_stE (K := 13) (po := 2) (B := B) (rs := ((marks mkS 13 k i ++ l.drop i).map segCells)) (row' := [.int .i64 b,.int .i64 (b + 1),.int .i64 (b + 2),.int .i64 x.ack,.int .i64 x.flags,.int .i64 x.window,.int .i64 x.o.mss,.int .i64 x.o.scale,.bool x.o.sack,.bool x.o.stamp,.int .i64 x.o.val,.int .i64 x.o.echo,.string x.body]) 0 [0,1,5,28,30] ⟨[(0,.v (.slice A l.length cap)),(1,.v (.int .i64 (b + 2))),(5,.v (.int .i64 (i : Int))),(28,.v (.int .i64 (b + 2))),(30,.v (.pointer (some ⟨b8,o9 + i * 13 + 2,none⟩)))],[],[],[ownF B (.slice A l.length cap) 13 (((marks mkS 13 k i ++ l.drop i).map segCells).set i [.int .i64 b,.int .i64 (b + 1),.int .i64 x.seq,.int .i64 x.ack,.int .i64 x.flags,.int .i64 x.window,.int .i64 x.o.mss,.int .i64 x.o.scale,.bool x.o.sack,.bool x.o.stamp,.int .i64 x.o.val,.int .i64 x.o.echo,.string x.body]),frF w (ownF B (.slice A l.length cap) 13 (l.map segCells)).blk]⟩ i [.int .i64 b,.int .i64 (b + 1),.int .i64 x.seq,.int .i64 x.ack,.int .i64 x.flags,.int .i64 x.window,.int .i64 x.o.mss,.int .i64 x.o.scale,.bool x.o.sack,.bool x.o.stamp,.int .i64 x.o.val,.int .i64 x.o.echo,.string x.body] 0 (by kernel_rfl) rfl (by kernel_rfl) rfl rfl rfl rfl (by kernel_rfl) (by kernel_rfl) rfl (cutW_le w B) hA10 (by rw [mark_ln hi]; exact hlt) (fun r hr => by obtain ⟨y,_,rfl⟩ := List.mem_map.1 hr; rfl) (by kernel_rfl) (by kernel_rfl) rfl rfl ?_
 refine kEF [0,1,5] ⟨[(0,.v (.slice A l.length cap)),(1,.v (.int .i64 (b + 2))),(5,.v (.int .i64 (i : Int)))],[],[],[ownF B (.slice A l.length cap) 13 (((marks mkS 13 k i ++ l.drop i).map segCells).set i [.int .i64 b,.int .i64 (b + 1),.int .i64 (b + 2),.int .i64 x.ack,.int .i64 x.flags,.int .i64 x.window,.int .i64 x.o.mss,.int .i64 x.o.scale,.bool x.o.sack,.bool x.o.stamp,.int .i64 x.o.val,.int .i64 x.o.echo,.string x.body]),frF w (ownF B (.slice A l.length cap) 13 (l.map segCells)).blk]⟩ ?_
 refine kQ ?_
 refine kRS 3 [0,1,5] [(0,.v (.slice A l.length cap)),(1,.v (.int .i64 (IntKind.i64.wrap (b + 2 + 1)))),(5,.v (.int .i64 (i : Int)))] ?_
 refine xl_eqS (t' := [(0,.v (.slice A l.length cap)),(1,.v (.int .i64 (b + 3))),(5,.v (.int .i64 (i : Int)))]) (by rw [show (IntKind.i64.wrap (b + 2 + 1)) = (b + 3) from wrap_to (by omega) (by omega) (by omega)]) ?_
 refine kES [0,1,5] [(0,.v (.slice A l.length cap)),(1,.v (.int .i64 (b + 3))),(5,.v (.int .i64 (i : Int)))] ?_
 refine kQ ?_
 refine xl_elem (kd := .i64) (T := 45) (e := 50) (K := 13) (A := A) (len := l.length) (cap := cap) (rs := (((marks mkS 13 k i ++ l.drop i).map segCells).set i [.int .i64 b,.int .i64 (b + 1),.int .i64 (b + 2),.int .i64 x.ack,.int .i64 x.flags,.int .i64 x.window,.int .i64 x.o.mss,.int .i64 x.o.scale,.bool x.o.sack,.bool x.o.stamp,.int .i64 x.o.val,.int .i64 x.o.echo,.string x.body])) 3 [0,1,5,33,34,35] ⟨[(0,.v (.slice A l.length cap)),(1,.v (.int .i64 (b + 3))),(5,.v (.int .i64 (i : Int))),(33,.v (.slice A l.length cap)),(34,.v (.int .i64 (i : Int))),(35,.v (.int .i64 (b + 3)))],[],[],[ownF B (.slice A l.length cap) 13 (((marks mkS 13 k i ++ l.drop i).map segCells).set i [.int .i64 b,.int .i64 (b + 1),.int .i64 (b + 2),.int .i64 x.ack,.int .i64 x.flags,.int .i64 x.window,.int .i64 x.o.mss,.int .i64 x.o.scale,.bool x.o.sack,.bool x.o.stamp,.int .i64 x.o.val,.int .i64 x.o.echo,.string x.body]),frF w (ownF B (.slice A l.length cap) 13 (l.map segCells)).blk]⟩ i (ownF B (.slice A l.length cap) 13 (((marks mkS 13 k i ++ l.drop i).map segCells).set i [.int .i64 b,.int .i64 (b + 1),.int .i64 (b + 2),.int .i64 x.ack,.int .i64 x.flags,.int .i64 x.window,.int .i64 x.o.mss,.int .i64 x.o.scale,.bool x.o.sack,.bool x.o.stamp,.int .i64 x.o.val,.int .i64 x.o.echo,.string x.body])) (by kernel_rfl) rfl (by kernel_rfl) (by kernel_rfl) rfl (by kernel_rfl) (by kernel_rfl) (by kernel_rfl) (by kernel_rfl) hlt (by simp) (fun ww h => Own.sl h) (by rw [List.length_set,mark_ln hi]; exact hlt) ?_
 intro b11 o12 hA13
 refine kOF 0 [0,1,5,35,36] ⟨[(0,.v (.slice A l.length cap)),(1,.v (.int .i64 (b + 3))),(5,.v (.int .i64 (i : Int))),(35,.v (.int .i64 (b + 3))),(36,.v (.pointer (some ⟨b11,o12 + i * 13,none⟩)))],[],[],[ownF B (.slice A l.length cap) 13 (((marks mkS 13 k i ++ l.drop i).map segCells).set i [.int .i64 b,.int .i64 (b + 1),.int .i64 (b + 2),.int .i64 x.ack,.int .i64 x.flags,.int .i64 x.window,.int .i64 x.o.mss,.int .i64 x.o.scale,.bool x.o.sack,.bool x.o.stamp,.int .i64 x.o.val,.int .i64 x.o.echo,.string x.body]),frF w (ownF B (.slice A l.length cap) 13 (l.map segCells)).blk]⟩ (.pointer (some ⟨b11,o12 + i * 13 + 3,none⟩)) rfl (fun _ _ _ ww hr => fld_run (sz := 1) hr rfl Tryz.underlying50 rfl (by kernel_rfl) rfl rfl (by first | rfl | omega)) ?_
 refine xl_stE (K := 13) (po := 3) (B := B) (rs := ((marks mkS 13 k i ++ l.drop i).map segCells)) (row' := [.int .i64 b,.int .i64 (b + 1),.int .i64 (b + 2),.int .i64 (b + 3),.int .i64 x.flags,.int .i64 x.window,.int .i64 x.o.mss,.int .i64 x.o.scale,.bool x.o.sack,.bool x.o.stamp,.int .i64 x.o.val,.int .i64 x.o.echo,.string x.body]) 0 [0,1,5,35,37] ⟨[(0,.v (.slice A l.length cap)),(1,.v (.int .i64 (b + 3))),(5,.v (.int .i64 (i : Int))),(35,.v (.int .i64 (b + 3))),(37,.v (.pointer (some ⟨b11,o12 + i * 13 + 3,none⟩)))],[],[],[ownF B (.slice A l.length cap) 13 (((marks mkS 13 k i ++ l.drop i).map segCells).set i [.int .i64 b,.int .i64 (b + 1),.int .i64 (b + 2),.int .i64 x.ack,.int .i64 x.flags,.int .i64 x.window,.int .i64 x.o.mss,.int .i64 x.o.scale,.bool x.o.sack,.bool x.o.stamp,.int .i64 x.o.val,.int .i64 x.o.echo,.string x.body]),frF w (ownF B (.slice A l.length cap) 13 (l.map segCells)).blk]⟩ i [.int .i64 b,.int .i64 (b + 1),.int .i64 (b + 2),.int .i64 x.ack,.int .i64 x.flags,.int .i64 x.window,.int .i64 x.o.mss,.int .i64 x.o.scale,.bool x.o.sack,.bool x.o.stamp,.int .i64 x.o.val,.int .i64 x.o.echo,.string x.body] 0 (by kernel_rfl) rfl (by kernel_rfl) rfl rfl rfl rfl (by kernel_rfl) (by kernel_rfl) rfl (cutW_le w B) hA13 (by rw [mark_ln hi]; exact hlt) (fun r hr => by obtain ⟨y,_,rfl⟩ := List.mem_map.1 hr; rfl) (by kernel_rfl) (by kernel_rfl) rfl rfl ?_
 refine kEF [0,1,5] ⟨[(0,.v (.slice A l.length cap)),(1,.v (.int .i64 (b + 3))),(5,.v (.int .i64 (i : Int)))],[],[],[ownF B (.slice A l.length cap) 13 (((marks mkS 13 k i ++ l.drop i).map segCells).set i [.int .i64 b,.int .i64 (b + 1),.int .i64 (b + 2),.int .i64 (b + 3),.int .i64 x.flags,.int .i64 x.window,.int .i64 x.o.mss,.int .i64 x.o.scale,.bool x.o.sack,.bool x.o.stamp,.int .i64 x.o.val,.int .i64 x.o.echo,.string x.body]),frF w (ownF B (.slice A l.length cap) 13 (l.map segCells)).blk]⟩ ?_
 refine kQ ?_
 refine kRS 3 [0,1,5] [(0,.v (.slice A l.length cap)),(1,.v (.int .i64 (IntKind.i64.wrap (b + 3 + 1)))),(5,.v (.int .i64 (i : Int)))] ?_
 refine xl_eqS (t' := [(0,.v (.slice A l.length cap)),(1,.v (.int .i64 (b + 4))),(5,.v (.int .i64 (i : Int)))]) (by rw [show (IntKind.i64.wrap (b + 3 + 1)) = (b + 4) from wrap_to (by omega) (by omega) (by omega)]) ?_
 refine kES [0,1,5] [(0,.v (.slice A l.length cap)),(1,.v (.int .i64 (b + 4))),(5,.v (.int .i64 (i : Int)))] ?_
 refine kQ ?_
 refine xl_elem (kd := .i64) (T := 45) (e := 50) (K := 13) (A := A) (len := l.length) (cap := cap) (rs := (((marks mkS 13 k i ++ l.drop i).map segCells).set i [.int .i64 b,.int .i64 (b + 1),.int .i64 (b + 2),.int .i64 (b + 3),.int .i64 x.flags,.int .i64 x.window,.int .i64 x.o.mss,.int .i64 x.o.scale,.bool x.o.sack,.bool x.o.stamp,.int .i64 x.o.val,.int .i64 x.o.echo,.string x.body])) 3 [0,1,5,40,41,42] ⟨[(0,.v (.slice A l.length cap)),(1,.v (.int .i64 (b + 4))),(5,.v (.int .i64 (i : Int))),(40,.v (.slice A l.length cap)),(41,.v (.int .i64 (i : Int))),(42,.v (.int .i64 (b + 4)))],[],[],[ownF B (.slice A l.length cap) 13 (((marks mkS 13 k i ++ l.drop i).map segCells).set i [.int .i64 b,.int .i64 (b + 1),.int .i64 (b + 2),.int .i64 (b + 3),.int .i64 x.flags,.int .i64 x.window,.int .i64 x.o.mss,.int .i64 x.o.scale,.bool x.o.sack,.bool x.o.stamp,.int .i64 x.o.val,.int .i64 x.o.echo,.string x.body]),frF w (ownF B (.slice A l.length cap) 13 (l.map segCells)).blk]⟩ i (ownF B (.slice A l.length cap) 13 (((marks mkS 13 k i ++ l.drop i).map segCells).set i [.int .i64 b,.int .i64 (b + 1),.int .i64 (b + 2),.int .i64 (b + 3),.int .i64 x.flags,.int .i64 x.window,.int .i64 x.o.mss,.int .i64 x.o.scale,.bool x.o.sack,.bool x.o.stamp,.int .i64 x.o.val,.int .i64 x.o.echo,.string x.body])) (by kernel_rfl) rfl (by kernel_rfl) (by kernel_rfl) rfl (by kernel_rfl) (by kernel_rfl) (by kernel_rfl) (by kernel_rfl) hlt (by simp) (fun ww h => Own.sl h) (by rw [List.length_set,mark_ln hi]; exact hlt) ?_
 intro b14 o15 hA16
 refine kOF 0 [0,1,5,42,43] ⟨[(0,.v (.slice A l.length cap)),(1,.v (.int .i64 (b + 4))),(5,.v (.int .i64 (i : Int))),(42,.v (.int .i64 (b + 4))),(43,.v (.pointer (some ⟨b14,o15 + i * 13,none⟩)))],[],[],[ownF B (.slice A l.length cap) 13 (((marks mkS 13 k i ++ l.drop i).map segCells).set i [.int .i64 b,.int .i64 (b + 1),.int .i64 (b + 2),.int .i64 (b + 3),.int .i64 x.flags,.int .i64 x.window,.int .i64 x.o.mss,.int .i64 x.o.scale,.bool x.o.sack,.bool x.o.stamp,.int .i64 x.o.val,.int .i64 x.o.echo,.string x.body]),frF w (ownF B (.slice A l.length cap) 13 (l.map segCells)).blk]⟩ (.pointer (some ⟨b14,o15 + i * 13 + 4,none⟩)) rfl (fun _ _ _ ww hr => fld_run (sz := 1) hr rfl Tryz.underlying50 rfl (by kernel_rfl) rfl rfl (by first | rfl | omega)) ?_
 refine xl_stE (K := 13) (po := 4) (B := B) (rs := ((marks mkS 13 k i ++ l.drop i).map segCells)) (row' := [.int .i64 b,.int .i64 (b + 1),.int .i64 (b + 2),.int .i64 (b + 3),.int .i64 (b + 4),.int .i64 x.window,.int .i64 x.o.mss,.int .i64 x.o.scale,.bool x.o.sack,.bool x.o.stamp,.int .i64 x.o.val,.int .i64 x.o.echo,.string x.body]) 0 [0,1,5,42,44] ⟨[(0,.v (.slice A l.length cap)),(1,.v (.int .i64 (b + 4))),(5,.v (.int .i64 (i : Int))),(42,.v (.int .i64 (b + 4))),(44,.v (.pointer (some ⟨b14,o15 + i * 13 + 4,none⟩)))],[],[],[ownF B (.slice A l.length cap) 13 (((marks mkS 13 k i ++ l.drop i).map segCells).set i [.int .i64 b,.int .i64 (b + 1),.int .i64 (b + 2),.int .i64 (b + 3),.int .i64 x.flags,.int .i64 x.window,.int .i64 x.o.mss,.int .i64 x.o.scale,.bool x.o.sack,.bool x.o.stamp,.int .i64 x.o.val,.int .i64 x.o.echo,.string x.body]),frF w (ownF B (.slice A l.length cap) 13 (l.map segCells)).blk]⟩ i [.int .i64 b,.int .i64 (b + 1),.int .i64 (b + 2),.int .i64 (b + 3),.int .i64 x.flags,.int .i64 x.window,.int .i64 x.o.mss,.int .i64 x.o.scale,.bool x.o.sack,.bool x.o.stamp,.int .i64 x.o.val,.int .i64 x.o.echo,.string x.body] 0 (by kernel_rfl) rfl (by kernel_rfl) rfl rfl rfl rfl (by kernel_rfl) (by kernel_rfl) rfl (cutW_le w B) hA16 (by rw [mark_ln hi]; exact hlt) (fun r hr => by obtain ⟨y,_,rfl⟩ := List.mem_map.1 hr; rfl) (by kernel_rfl) (by kernel_rfl) rfl rfl ?_
 refine kEF [0,1,5] ⟨[(0,.v (.slice A l.length cap)),(1,.v (.int .i64 (b + 4))),(5,.v (.int .i64 (i : Int)))],[],[],[ownF B (.slice A l.length cap) 13 (((marks mkS 13 k i ++ l.drop i).map segCells).set i [.int .i64 b,.int .i64 (b + 1),.int .i64 (b + 2),.int .i64 (b + 3),.int .i64 (b + 4),.int .i64 x.window,.int .i64 x.o.mss,.int .i64 x.o.scale,.bool x.o.sack,.bool x.o.stamp,.int .i64 x.o.val,.int .i64 x.o.echo,.string x.body]),frF w (ownF B (.slice A l.length cap) 13 (l.map segCells)).blk]⟩ ?_
 refine kQ ?_
 refine kRS 3 [0,1,5] [(0,.v (.slice A l.length cap)),(1,.v (.int .i64 (IntKind.i64.wrap (b + 4 + 1)))),(5,.v (.int .i64 (i : Int)))] ?_
 refine xl_eqS (t' := [(0,.v (.slice A l.length cap)),(1,.v (.int .i64 (b + 5))),(5,.v (.int .i64 (i : Int)))]) (by rw [show (IntKind.i64.wrap (b + 4 + 1)) = (b + 5) from wrap_to (by omega) (by omega) (by omega)]) ?_
 refine kES [0,1,5] [(0,.v (.slice A l.length cap)),(1,.v (.int .i64 (b + 5))),(5,.v (.int .i64 (i : Int)))] ?_
 refine kQ ?_
 refine xl_elem (kd := .i64) (T := 45) (e := 50) (K := 13) (A := A) (len := l.length) (cap := cap) (rs := (((marks mkS 13 k i ++ l.drop i).map segCells).set i [.int .i64 b,.int .i64 (b + 1),.int .i64 (b + 2),.int .i64 (b + 3),.int .i64 (b + 4),.int .i64 x.window,.int .i64 x.o.mss,.int .i64 x.o.scale,.bool x.o.sack,.bool x.o.stamp,.int .i64 x.o.val,.int .i64 x.o.echo,.string x.body])) 3 [0,1,5,47,48,49] ⟨[(0,.v (.slice A l.length cap)),(1,.v (.int .i64 (b + 5))),(5,.v (.int .i64 (i : Int))),(47,.v (.slice A l.length cap)),(48,.v (.int .i64 (i : Int))),(49,.v (.int .i64 (b + 5)))],[],[],[ownF B (.slice A l.length cap) 13 (((marks mkS 13 k i ++ l.drop i).map segCells).set i [.int .i64 b,.int .i64 (b + 1),.int .i64 (b + 2),.int .i64 (b + 3),.int .i64 (b + 4),.int .i64 x.window,.int .i64 x.o.mss,.int .i64 x.o.scale,.bool x.o.sack,.bool x.o.stamp,.int .i64 x.o.val,.int .i64 x.o.echo,.string x.body]),frF w (ownF B (.slice A l.length cap) 13 (l.map segCells)).blk]⟩ i (ownF B (.slice A l.length cap) 13 (((marks mkS 13 k i ++ l.drop i).map segCells).set i [.int .i64 b,.int .i64 (b + 1),.int .i64 (b + 2),.int .i64 (b + 3),.int .i64 (b + 4),.int .i64 x.window,.int .i64 x.o.mss,.int .i64 x.o.scale,.bool x.o.sack,.bool x.o.stamp,.int .i64 x.o.val,.int .i64 x.o.echo,.string x.body])) (by kernel_rfl) rfl (by kernel_rfl) (by kernel_rfl) rfl (by kernel_rfl) (by kernel_rfl) (by kernel_rfl) (by kernel_rfl) hlt (by simp) (fun ww h => Own.sl h) (by rw [List.length_set,mark_ln hi]; exact hlt) ?_
 intro b17 o18 hA19
 refine kOF 0 [0,1,5,49,50] ⟨[(0,.v (.slice A l.length cap)),(1,.v (.int .i64 (b + 5))),(5,.v (.int .i64 (i : Int))),(49,.v (.int .i64 (b + 5))),(50,.v (.pointer (some ⟨b17,o18 + i * 13,none⟩)))],[],[],[ownF B (.slice A l.length cap) 13 (((marks mkS 13 k i ++ l.drop i).map segCells).set i [.int .i64 b,.int .i64 (b + 1),.int .i64 (b + 2),.int .i64 (b + 3),.int .i64 (b + 4),.int .i64 x.window,.int .i64 x.o.mss,.int .i64 x.o.scale,.bool x.o.sack,.bool x.o.stamp,.int .i64 x.o.val,.int .i64 x.o.echo,.string x.body]),frF w (ownF B (.slice A l.length cap) 13 (l.map segCells)).blk]⟩ (.pointer (some ⟨b17,o18 + i * 13 + 5,none⟩)) rfl (fun _ _ _ ww hr => fld_run (sz := 1) hr rfl Tryz.underlying50 rfl (by kernel_rfl) rfl rfl (by first | rfl | omega)) ?_
 refine xl_stE (K := 13) (po := 5) (B := B) (rs := ((marks mkS 13 k i ++ l.drop i).map segCells)) (row' := [.int .i64 b,.int .i64 (b + 1),.int .i64 (b + 2),.int .i64 (b + 3),.int .i64 (b + 4),.int .i64 (b + 5),.int .i64 x.o.mss,.int .i64 x.o.scale,.bool x.o.sack,.bool x.o.stamp,.int .i64 x.o.val,.int .i64 x.o.echo,.string x.body]) 0 [0,1,5,49,51] ⟨[(0,.v (.slice A l.length cap)),(1,.v (.int .i64 (b + 5))),(5,.v (.int .i64 (i : Int))),(49,.v (.int .i64 (b + 5))),(51,.v (.pointer (some ⟨b17,o18 + i * 13 + 5,none⟩)))],[],[],[ownF B (.slice A l.length cap) 13 (((marks mkS 13 k i ++ l.drop i).map segCells).set i [.int .i64 b,.int .i64 (b + 1),.int .i64 (b + 2),.int .i64 (b + 3),.int .i64 (b + 4),.int .i64 x.window,.int .i64 x.o.mss,.int .i64 x.o.scale,.bool x.o.sack,.bool x.o.stamp,.int .i64 x.o.val,.int .i64 x.o.echo,.string x.body]),frF w (ownF B (.slice A l.length cap) 13 (l.map segCells)).blk]⟩ i [.int .i64 b,.int .i64 (b + 1),.int .i64 (b + 2),.int .i64 (b + 3),.int .i64 (b + 4),.int .i64 x.window,.int .i64 x.o.mss,.int .i64 x.o.scale,.bool x.o.sack,.bool x.o.stamp,.int .i64 x.o.val,.int .i64 x.o.echo,.string x.body] 0 (by kernel_rfl) rfl (by kernel_rfl) rfl rfl rfl rfl (by kernel_rfl) (by kernel_rfl) rfl (cutW_le w B) hA19 (by rw [mark_ln hi]; exact hlt) (fun r hr => by obtain ⟨y,_,rfl⟩ := List.mem_map.1 hr; rfl) (by kernel_rfl) (by kernel_rfl) rfl rfl ?_
 refine kEF [0,1,5] ⟨[(0,.v (.slice A l.length cap)),(1,.v (.int .i64 (b + 5))),(5,.v (.int .i64 (i : Int)))],[],[],[ownF B (.slice A l.length cap) 13 (((marks mkS 13 k i ++ l.drop i).map segCells).set i [.int .i64 b,.int .i64 (b + 1),.int .i64 (b + 2),.int .i64 (b + 3),.int .i64 (b + 4),.int .i64 (b + 5),.int .i64 x.o.mss,.int .i64 x.o.scale,.bool x.o.sack,.bool x.o.stamp,.int .i64 x.o.val,.int .i64 x.o.echo,.string x.body]),frF w (ownF B (.slice A l.length cap) 13 (l.map segCells)).blk]⟩ ?_
 refine kQ ?_
 refine kRS 3 [0,1,5] [(0,.v (.slice A l.length cap)),(1,.v (.int .i64 (IntKind.i64.wrap (b + 5 + 1)))),(5,.v (.int .i64 (i : Int)))] ?_
 refine xl_eqS (t' := [(0,.v (.slice A l.length cap)),(1,.v (.int .i64 (b + 6))),(5,.v (.int .i64 (i : Int)))]) (by rw [show (IntKind.i64.wrap (b + 5 + 1)) = (b + 6) from wrap_to (by omega) (by omega) (by omega)]) ?_
 refine kES [0,1,5] [(0,.v (.slice A l.length cap)),(1,.v (.int .i64 (b + 6))),(5,.v (.int .i64 (i : Int)))] ?_
 refine kQ ?_
 refine xl_elem (kd := .i64) (T := 45) (e := 50) (K := 13) (A := A) (len := l.length) (cap := cap) (rs := (((marks mkS 13 k i ++ l.drop i).map segCells).set i [.int .i64 b,.int .i64 (b + 1),.int .i64 (b + 2),.int .i64 (b + 3),.int .i64 (b + 4),.int .i64 (b + 5),.int .i64 x.o.mss,.int .i64 x.o.scale,.bool x.o.sack,.bool x.o.stamp,.int .i64 x.o.val,.int .i64 x.o.echo,.string x.body])) 3 [0,1,5,54,55,56] ⟨[(0,.v (.slice A l.length cap)),(1,.v (.int .i64 (b + 6))),(5,.v (.int .i64 (i : Int))),(54,.v (.slice A l.length cap)),(55,.v (.int .i64 (i : Int))),(56,.v (.int .i64 (b + 6)))],[],[],[ownF B (.slice A l.length cap) 13 (((marks mkS 13 k i ++ l.drop i).map segCells).set i [.int .i64 b,.int .i64 (b + 1),.int .i64 (b + 2),.int .i64 (b + 3),.int .i64 (b + 4),.int .i64 (b + 5),.int .i64 x.o.mss,.int .i64 x.o.scale,.bool x.o.sack,.bool x.o.stamp,.int .i64 x.o.val,.int .i64 x.o.echo,.string x.body]),frF w (ownF B (.slice A l.length cap) 13 (l.map segCells)).blk]⟩ i (ownF B (.slice A l.length cap) 13 (((marks mkS 13 k i ++ l.drop i).map segCells).set i [.int .i64 b,.int .i64 (b + 1),.int .i64 (b + 2),.int .i64 (b + 3),.int .i64 (b + 4),.int .i64 (b + 5),.int .i64 x.o.mss,.int .i64 x.o.scale,.bool x.o.sack,.bool x.o.stamp,.int .i64 x.o.val,.int .i64 x.o.echo,.string x.body])) (by kernel_rfl) rfl (by kernel_rfl) (by kernel_rfl) rfl (by kernel_rfl) (by kernel_rfl) (by kernel_rfl) (by kernel_rfl) hlt (by simp) (fun ww h => Own.sl h) (by rw [List.length_set,mark_ln hi]; exact hlt) ?_
 intro b20 o21 hA22
 refine kOF 0 [0,1,5,56,57] ⟨[(0,.v (.slice A l.length cap)),(1,.v (.int .i64 (b + 6))),(5,.v (.int .i64 (i : Int))),(56,.v (.int .i64 (b + 6))),(57,.v (.pointer (some ⟨b20,o21 + i * 13,none⟩)))],[],[],[ownF B (.slice A l.length cap) 13 (((marks mkS 13 k i ++ l.drop i).map segCells).set i [.int .i64 b,.int .i64 (b + 1),.int .i64 (b + 2),.int .i64 (b + 3),.int .i64 (b + 4),.int .i64 (b + 5),.int .i64 x.o.mss,.int .i64 x.o.scale,.bool x.o.sack,.bool x.o.stamp,.int .i64 x.o.val,.int .i64 x.o.echo,.string x.body]),frF w (ownF B (.slice A l.length cap) 13 (l.map segCells)).blk]⟩ (.pointer (some ⟨b20,o21 + i * 13 + 6,none⟩)) rfl (fun _ _ _ ww hr => fld_run (sz := 6) hr rfl Tryz.underlying50 rfl (by kernel_rfl) rfl rfl (by first | rfl | omega)) ?_
 refine kOF 0 [0,1,5,56,58] ⟨[(0,.v (.slice A l.length cap)),(1,.v (.int .i64 (b + 6))),(5,.v (.int .i64 (i : Int))),(56,.v (.int .i64 (b + 6))),(58,.v (.pointer (some ⟨b20,o21 + i * 13 + 6,none⟩)))],[],[],[ownF B (.slice A l.length cap) 13 (((marks mkS 13 k i ++ l.drop i).map segCells).set i [.int .i64 b,.int .i64 (b + 1),.int .i64 (b + 2),.int .i64 (b + 3),.int .i64 (b + 4),.int .i64 (b + 5),.int .i64 x.o.mss,.int .i64 x.o.scale,.bool x.o.sack,.bool x.o.stamp,.int .i64 x.o.val,.int .i64 x.o.echo,.string x.body]),frF w (ownF B (.slice A l.length cap) 13 (l.map segCells)).blk]⟩ (.pointer (some ⟨b20,o21 + i * 13 + 6,none⟩)) rfl (fun _ _ _ ww hr => fld_run (sz := 1) hr rfl Tryz.underlying42 rfl (by kernel_rfl) rfl rfl (by first | rfl | omega)) ?_
 refine xl_stE (K := 13) (po := 6) (B := B) (rs := ((marks mkS 13 k i ++ l.drop i).map segCells)) (row' := [.int .i64 b,.int .i64 (b + 1),.int .i64 (b + 2),.int .i64 (b + 3),.int .i64 (b + 4),.int .i64 (b + 5),.int .i64 (b + 6),.int .i64 x.o.scale,.bool x.o.sack,.bool x.o.stamp,.int .i64 x.o.val,.int .i64 x.o.echo,.string x.body]) 0 [0,1,5,56,59] ⟨[(0,.v (.slice A l.length cap)),(1,.v (.int .i64 (b + 6))),(5,.v (.int .i64 (i : Int))),(56,.v (.int .i64 (b + 6))),(59,.v (.pointer (some ⟨b20,o21 + i * 13 + 6,none⟩)))],[],[],[ownF B (.slice A l.length cap) 13 (((marks mkS 13 k i ++ l.drop i).map segCells).set i [.int .i64 b,.int .i64 (b + 1),.int .i64 (b + 2),.int .i64 (b + 3),.int .i64 (b + 4),.int .i64 (b + 5),.int .i64 x.o.mss,.int .i64 x.o.scale,.bool x.o.sack,.bool x.o.stamp,.int .i64 x.o.val,.int .i64 x.o.echo,.string x.body]),frF w (ownF B (.slice A l.length cap) 13 (l.map segCells)).blk]⟩ i [.int .i64 b,.int .i64 (b + 1),.int .i64 (b + 2),.int .i64 (b + 3),.int .i64 (b + 4),.int .i64 (b + 5),.int .i64 x.o.mss,.int .i64 x.o.scale,.bool x.o.sack,.bool x.o.stamp,.int .i64 x.o.val,.int .i64 x.o.echo,.string x.body] 0 (by kernel_rfl) rfl (by kernel_rfl) rfl rfl rfl rfl (by kernel_rfl) (by kernel_rfl) rfl (cutW_le w B) hA22 (by rw [mark_ln hi]; exact hlt) (fun r hr => by obtain ⟨y,_,rfl⟩ := List.mem_map.1 hr; rfl) (by kernel_rfl) (by kernel_rfl) rfl rfl ?_
 refine kEF [0,1,5] ⟨[(0,.v (.slice A l.length cap)),(1,.v (.int .i64 (b + 6))),(5,.v (.int .i64 (i : Int)))],[],[],[ownF B (.slice A l.length cap) 13 (((marks mkS 13 k i ++ l.drop i).map segCells).set i [.int .i64 b,.int .i64 (b + 1),.int .i64 (b + 2),.int .i64 (b + 3),.int .i64 (b + 4),.int .i64 (b + 5),.int .i64 (b + 6),.int .i64 x.o.scale,.bool x.o.sack,.bool x.o.stamp,.int .i64 x.o.val,.int .i64 x.o.echo,.string x.body]),frF w (ownF B (.slice A l.length cap) 13 (l.map segCells)).blk]⟩ ?_
 refine kQ ?_
 refine kRS 3 [0,1,5] [(0,.v (.slice A l.length cap)),(1,.v (.int .i64 (IntKind.i64.wrap (b + 6 + 1)))),(5,.v (.int .i64 (i : Int)))] ?_
 refine xl_eqS (t' := [(0,.v (.slice A l.length cap)),(1,.v (.int .i64 (b + 7))),(5,.v (.int .i64 (i : Int)))]) (by rw [show (IntKind.i64.wrap (b + 6 + 1)) = (b + 7) from wrap_to (by omega) (by omega) (by omega)]) ?_
 refine kES [0,1,5] [(0,.v (.slice A l.length cap)),(1,.v (.int .i64 (b + 7))),(5,.v (.int .i64 (i : Int)))] ?_
 refine kQ ?_
 refine xl_elem (kd := .i64) (T := 45) (e := 50) (K := 13) (A := A) (len := l.length) (cap := cap) (rs := (((marks mkS 13 k i ++ l.drop i).map segCells).set i [.int .i64 b,.int .i64 (b + 1),.int .i64 (b + 2),.int .i64 (b + 3),.int .i64 (b + 4),.int .i64 (b + 5),.int .i64 (b + 6),.int .i64 x.o.scale,.bool x.o.sack,.bool x.o.stamp,.int .i64 x.o.val,.int .i64 x.o.echo,.string x.body])) 3 [0,1,5,62,63,64] ⟨[(0,.v (.slice A l.length cap)),(1,.v (.int .i64 (b + 7))),(5,.v (.int .i64 (i : Int))),(62,.v (.slice A l.length cap)),(63,.v (.int .i64 (i : Int))),(64,.v (.int .i64 (b + 7)))],[],[],[ownF B (.slice A l.length cap) 13 (((marks mkS 13 k i ++ l.drop i).map segCells).set i [.int .i64 b,.int .i64 (b + 1),.int .i64 (b + 2),.int .i64 (b + 3),.int .i64 (b + 4),.int .i64 (b + 5),.int .i64 (b + 6),.int .i64 x.o.scale,.bool x.o.sack,.bool x.o.stamp,.int .i64 x.o.val,.int .i64 x.o.echo,.string x.body]),frF w (ownF B (.slice A l.length cap) 13 (l.map segCells)).blk]⟩ i (ownF B (.slice A l.length cap) 13 (((marks mkS 13 k i ++ l.drop i).map segCells).set i [.int .i64 b,.int .i64 (b + 1),.int .i64 (b + 2),.int .i64 (b + 3),.int .i64 (b + 4),.int .i64 (b + 5),.int .i64 (b + 6),.int .i64 x.o.scale,.bool x.o.sack,.bool x.o.stamp,.int .i64 x.o.val,.int .i64 x.o.echo,.string x.body])) (by kernel_rfl) rfl (by kernel_rfl) (by kernel_rfl) rfl (by kernel_rfl) (by kernel_rfl) (by kernel_rfl) (by kernel_rfl) hlt (by simp) (fun ww h => Own.sl h) (by rw [List.length_set,mark_ln hi]; exact hlt) ?_
 intro b23 o24 hA25
 refine kOF 0 [0,1,5,64,65] ⟨[(0,.v (.slice A l.length cap)),(1,.v (.int .i64 (b + 7))),(5,.v (.int .i64 (i : Int))),(64,.v (.int .i64 (b + 7))),(65,.v (.pointer (some ⟨b23,o24 + i * 13,none⟩)))],[],[],[ownF B (.slice A l.length cap) 13 (((marks mkS 13 k i ++ l.drop i).map segCells).set i [.int .i64 b,.int .i64 (b + 1),.int .i64 (b + 2),.int .i64 (b + 3),.int .i64 (b + 4),.int .i64 (b + 5),.int .i64 (b + 6),.int .i64 x.o.scale,.bool x.o.sack,.bool x.o.stamp,.int .i64 x.o.val,.int .i64 x.o.echo,.string x.body]),frF w (ownF B (.slice A l.length cap) 13 (l.map segCells)).blk]⟩ (.pointer (some ⟨b23,o24 + i * 13 + 6,none⟩)) rfl (fun _ _ _ ww hr => fld_run (sz := 6) hr rfl Tryz.underlying50 rfl (by kernel_rfl) rfl rfl (by first | rfl | omega)) ?_
 refine kOF 0 [0,1,5,64,66] ⟨[(0,.v (.slice A l.length cap)),(1,.v (.int .i64 (b + 7))),(5,.v (.int .i64 (i : Int))),(64,.v (.int .i64 (b + 7))),(66,.v (.pointer (some ⟨b23,o24 + i * 13 + 6,none⟩)))],[],[],[ownF B (.slice A l.length cap) 13 (((marks mkS 13 k i ++ l.drop i).map segCells).set i [.int .i64 b,.int .i64 (b + 1),.int .i64 (b + 2),.int .i64 (b + 3),.int .i64 (b + 4),.int .i64 (b + 5),.int .i64 (b + 6),.int .i64 x.o.scale,.bool x.o.sack,.bool x.o.stamp,.int .i64 x.o.val,.int .i64 x.o.echo,.string x.body]),frF w (ownF B (.slice A l.length cap) 13 (l.map segCells)).blk]⟩ (.pointer (some ⟨b23,o24 + i * 13 + 7,none⟩)) rfl (fun _ _ _ ww hr => fld_run (sz := 1) hr rfl Tryz.underlying42 rfl (by kernel_rfl) rfl rfl (by first | rfl | omega)) ?_
 refine xl_stE (K := 13) (po := 7) (B := B) (rs := ((marks mkS 13 k i ++ l.drop i).map segCells)) (row' := [.int .i64 b,.int .i64 (b + 1),.int .i64 (b + 2),.int .i64 (b + 3),.int .i64 (b + 4),.int .i64 (b + 5),.int .i64 (b + 6),.int .i64 (b + 7),.bool x.o.sack,.bool x.o.stamp,.int .i64 x.o.val,.int .i64 x.o.echo,.string x.body]) 0 [0,1,5,64,67] ⟨[(0,.v (.slice A l.length cap)),(1,.v (.int .i64 (b + 7))),(5,.v (.int .i64 (i : Int))),(64,.v (.int .i64 (b + 7))),(67,.v (.pointer (some ⟨b23,o24 + i * 13 + 7,none⟩)))],[],[],[ownF B (.slice A l.length cap) 13 (((marks mkS 13 k i ++ l.drop i).map segCells).set i [.int .i64 b,.int .i64 (b + 1),.int .i64 (b + 2),.int .i64 (b + 3),.int .i64 (b + 4),.int .i64 (b + 5),.int .i64 (b + 6),.int .i64 x.o.scale,.bool x.o.sack,.bool x.o.stamp,.int .i64 x.o.val,.int .i64 x.o.echo,.string x.body]),frF w (ownF B (.slice A l.length cap) 13 (l.map segCells)).blk]⟩ i [.int .i64 b,.int .i64 (b + 1),.int .i64 (b + 2),.int .i64 (b + 3),.int .i64 (b + 4),.int .i64 (b + 5),.int .i64 (b + 6),.int .i64 x.o.scale,.bool x.o.sack,.bool x.o.stamp,.int .i64 x.o.val,.int .i64 x.o.echo,.string x.body] 0 (by kernel_rfl) rfl (by kernel_rfl) rfl rfl rfl rfl (by kernel_rfl) (by kernel_rfl) rfl (cutW_le w B) hA25 (by rw [mark_ln hi]; exact hlt) (fun r hr => by obtain ⟨y,_,rfl⟩ := List.mem_map.1 hr; rfl) (by kernel_rfl) (by kernel_rfl) rfl rfl ?_
 refine kEF [0,1,5] ⟨[(0,.v (.slice A l.length cap)),(1,.v (.int .i64 (b + 7))),(5,.v (.int .i64 (i : Int)))],[],[],[ownF B (.slice A l.length cap) 13 (((marks mkS 13 k i ++ l.drop i).map segCells).set i [.int .i64 b,.int .i64 (b + 1),.int .i64 (b + 2),.int .i64 (b + 3),.int .i64 (b + 4),.int .i64 (b + 5),.int .i64 (b + 6),.int .i64 (b + 7),.bool x.o.sack,.bool x.o.stamp,.int .i64 x.o.val,.int .i64 x.o.echo,.string x.body]),frF w (ownF B (.slice A l.length cap) 13 (l.map segCells)).blk]⟩ ?_
 refine kQ ?_
 refine kRS 3 [0,1,5] [(0,.v (.slice A l.length cap)),(1,.v (.int .i64 (IntKind.i64.wrap (b + 7 + 1)))),(5,.v (.int .i64 (i : Int)))] ?_
 refine xl_eqS (t' := [(0,.v (.slice A l.length cap)),(1,.v (.int .i64 (b + 8))),(5,.v (.int .i64 (i : Int)))]) (by rw [show (IntKind.i64.wrap (b + 7 + 1)) = (b + 8) from wrap_to (by omega) (by omega) (by omega)]) ?_
 refine kES [0,1,5] [(0,.v (.slice A l.length cap)),(1,.v (.int .i64 (b + 8))),(5,.v (.int .i64 (i : Int)))] ?_
 refine kQ ?_
 refine kOS 3 [0,1,5,70,71,72] [(0,.v (.slice A l.length cap)),(1,.v (.int .i64 (b + 8))),(5,.v (.int .i64 (i : Int))),(70,.v (.slice A l.length cap)),(71,.v (.int .i64 (i : Int))),(72,.v (.int .i64 (b + 8)))] (.int .i64 (Int.tmod (b + 8) 3)) rfl (fun _ _ _ ww hr => act_bin hr.1 rfl (by kernel_rfl) (by kernel_rfl) (rem_run (by first | decide | omega) ww)) ?_
 refine xl_elem (kd := .i64) (T := 45) (e := 50) (K := 13) (A := A) (len := l.length) (cap := cap) (rs := (((marks mkS 13 k i ++ l.drop i).map segCells).set i [.int .i64 b,.int .i64 (b + 1),.int .i64 (b + 2),.int .i64 (b + 3),.int .i64 (b + 4),.int .i64 (b + 5),.int .i64 (b + 6),.int .i64 (b + 7),.bool x.o.sack,.bool x.o.stamp,.int .i64 x.o.val,.int .i64 x.o.echo,.string x.body])) 1 [0,1,5,70,71,74] ⟨[(0,.v (.slice A l.length cap)),(1,.v (.int .i64 (b + 8))),(5,.v (.int .i64 (i : Int))),(70,.v (.slice A l.length cap)),(71,.v (.int .i64 (i : Int))),(74,.v (.bool ((Int.tmod (b + 8) 3) == 0)))],[],[],[ownF B (.slice A l.length cap) 13 (((marks mkS 13 k i ++ l.drop i).map segCells).set i [.int .i64 b,.int .i64 (b + 1),.int .i64 (b + 2),.int .i64 (b + 3),.int .i64 (b + 4),.int .i64 (b + 5),.int .i64 (b + 6),.int .i64 (b + 7),.bool x.o.sack,.bool x.o.stamp,.int .i64 x.o.val,.int .i64 x.o.echo,.string x.body]),frF w (ownF B (.slice A l.length cap) 13 (l.map segCells)).blk]⟩ i (ownF B (.slice A l.length cap) 13 (((marks mkS 13 k i ++ l.drop i).map segCells).set i [.int .i64 b,.int .i64 (b + 1),.int .i64 (b + 2),.int .i64 (b + 3),.int .i64 (b + 4),.int .i64 (b + 5),.int .i64 (b + 6),.int .i64 (b + 7),.bool x.o.sack,.bool x.o.stamp,.int .i64 x.o.val,.int .i64 x.o.echo,.string x.body])) (by kernel_rfl) rfl (by kernel_rfl) (by kernel_rfl) rfl (by kernel_rfl) (by kernel_rfl) (by kernel_rfl) (by kernel_rfl) hlt (by simp) (fun ww h => Own.sl h) (by rw [List.length_set,mark_ln hi]; exact hlt) ?_
 intro b26 o27 hA28
 refine kOF 0 [0,1,5,74,75] ⟨[(0,.v (.slice A l.length cap)),(1,.v (.int .i64 (b + 8))),(5,.v (.int .i64 (i : Int))),(74,.v (.bool ((Int.tmod (b + 8) 3) == 0))),(75,.v (.pointer (some ⟨b26,o27 + i * 13,none⟩)))],[],[],[ownF B (.slice A l.length cap) 13 (((marks mkS 13 k i ++ l.drop i).map segCells).set i [.int .i64 b,.int .i64 (b + 1),.int .i64 (b + 2),.int .i64 (b + 3),.int .i64 (b + 4),.int .i64 (b + 5),.int .i64 (b + 6),.int .i64 (b + 7),.bool x.o.sack,.bool x.o.stamp,.int .i64 x.o.val,.int .i64 x.o.echo,.string x.body]),frF w (ownF B (.slice A l.length cap) 13 (l.map segCells)).blk]⟩ (.pointer (some ⟨b26,o27 + i * 13 + 6,none⟩)) rfl (fun _ _ _ ww hr => fld_run (sz := 6) hr rfl Tryz.underlying50 rfl (by kernel_rfl) rfl rfl (by first | rfl | omega)) ?_
 refine kOF 0 [0,1,5,74,76] ⟨[(0,.v (.slice A l.length cap)),(1,.v (.int .i64 (b + 8))),(5,.v (.int .i64 (i : Int))),(74,.v (.bool ((Int.tmod (b + 8) 3) == 0))),(76,.v (.pointer (some ⟨b26,o27 + i * 13 + 6,none⟩)))],[],[],[ownF B (.slice A l.length cap) 13 (((marks mkS 13 k i ++ l.drop i).map segCells).set i [.int .i64 b,.int .i64 (b + 1),.int .i64 (b + 2),.int .i64 (b + 3),.int .i64 (b + 4),.int .i64 (b + 5),.int .i64 (b + 6),.int .i64 (b + 7),.bool x.o.sack,.bool x.o.stamp,.int .i64 x.o.val,.int .i64 x.o.echo,.string x.body]),frF w (ownF B (.slice A l.length cap) 13 (l.map segCells)).blk]⟩ (.pointer (some ⟨b26,o27 + i * 13 + 8,none⟩)) rfl (fun _ _ _ ww hr => fld_run (sz := 1) hr rfl Tryz.underlying42 rfl (by kernel_rfl) rfl rfl (by first | rfl | omega)) ?_
 refine xl_stE (K := 13) (po := 8) (B := B) (rs := ((marks mkS 13 k i ++ l.drop i).map segCells)) (row' := [.int .i64 b,.int .i64 (b + 1),.int .i64 (b + 2),.int .i64 (b + 3),.int .i64 (b + 4),.int .i64 (b + 5),.int .i64 (b + 6),.int .i64 (b + 7),.bool ((Int.tmod (b + 8) 3) == 0),.bool x.o.stamp,.int .i64 x.o.val,.int .i64 x.o.echo,.string x.body]) 0 [0,1,5,74,77] ⟨[(0,.v (.slice A l.length cap)),(1,.v (.int .i64 (b + 8))),(5,.v (.int .i64 (i : Int))),(74,.v (.bool ((Int.tmod (b + 8) 3) == 0))),(77,.v (.pointer (some ⟨b26,o27 + i * 13 + 8,none⟩)))],[],[],[ownF B (.slice A l.length cap) 13 (((marks mkS 13 k i ++ l.drop i).map segCells).set i [.int .i64 b,.int .i64 (b + 1),.int .i64 (b + 2),.int .i64 (b + 3),.int .i64 (b + 4),.int .i64 (b + 5),.int .i64 (b + 6),.int .i64 (b + 7),.bool x.o.sack,.bool x.o.stamp,.int .i64 x.o.val,.int .i64 x.o.echo,.string x.body]),frF w (ownF B (.slice A l.length cap) 13 (l.map segCells)).blk]⟩ i [.int .i64 b,.int .i64 (b + 1),.int .i64 (b + 2),.int .i64 (b + 3),.int .i64 (b + 4),.int .i64 (b + 5),.int .i64 (b + 6),.int .i64 (b + 7),.bool x.o.sack,.bool x.o.stamp,.int .i64 x.o.val,.int .i64 x.o.echo,.string x.body] 0 (by kernel_rfl) rfl (by kernel_rfl) rfl rfl rfl rfl (by kernel_rfl) (by kernel_rfl) rfl (cutW_le w B) hA28 (by rw [mark_ln hi]; exact hlt) (fun r hr => by obtain ⟨y,_,rfl⟩ := List.mem_map.1 hr; rfl) (by kernel_rfl) (by kernel_rfl) rfl rfl ?_
 refine kEF [0,1,5] ⟨[(0,.v (.slice A l.length cap)),(1,.v (.int .i64 (b + 8))),(5,.v (.int .i64 (i : Int)))],[],[],[ownF B (.slice A l.length cap) 13 (((marks mkS 13 k i ++ l.drop i).map segCells).set i [.int .i64 b,.int .i64 (b + 1),.int .i64 (b + 2),.int .i64 (b + 3),.int .i64 (b + 4),.int .i64 (b + 5),.int .i64 (b + 6),.int .i64 (b + 7),.bool ((Int.tmod (b + 8) 3) == 0),.bool x.o.stamp,.int .i64 x.o.val,.int .i64 x.o.echo,.string x.body]),frF w (ownF B (.slice A l.length cap) 13 (l.map segCells)).blk]⟩ ?_
 refine kQ ?_
 refine kRS 3 [0,1,5] [(0,.v (.slice A l.length cap)),(1,.v (.int .i64 (IntKind.i64.wrap (b + 8 + 1)))),(5,.v (.int .i64 (i : Int)))] ?_
 refine xl_eqS (t' := [(0,.v (.slice A l.length cap)),(1,.v (.int .i64 (b + 9))),(5,.v (.int .i64 (i : Int)))]) (by rw [show (IntKind.i64.wrap (b + 8 + 1)) = (b + 9) from wrap_to (by omega) (by omega) (by omega)]) ?_
 refine kES [0,1,5] [(0,.v (.slice A l.length cap)),(1,.v (.int .i64 (b + 9))),(5,.v (.int .i64 (i : Int)))] ?_
 refine kQ ?_
 refine kOS 3 [0,1,5,80,81,82] [(0,.v (.slice A l.length cap)),(1,.v (.int .i64 (b + 9))),(5,.v (.int .i64 (i : Int))),(80,.v (.slice A l.length cap)),(81,.v (.int .i64 (i : Int))),(82,.v (.int .i64 (b + 9)))] (.int .i64 (Int.tmod (b + 9) 3)) rfl (fun _ _ _ ww hr => act_bin hr.1 rfl (by kernel_rfl) (by kernel_rfl) (rem_run (by first | decide | omega) ww)) ?_
 refine xl_elem (kd := .i64) (T := 45) (e := 50) (K := 13) (A := A) (len := l.length) (cap := cap) (rs := (((marks mkS 13 k i ++ l.drop i).map segCells).set i [.int .i64 b,.int .i64 (b + 1),.int .i64 (b + 2),.int .i64 (b + 3),.int .i64 (b + 4),.int .i64 (b + 5),.int .i64 (b + 6),.int .i64 (b + 7),.bool ((Int.tmod (b + 8) 3) == 0),.bool x.o.stamp,.int .i64 x.o.val,.int .i64 x.o.echo,.string x.body])) 1 [0,1,5,80,81,84] ⟨[(0,.v (.slice A l.length cap)),(1,.v (.int .i64 (b + 9))),(5,.v (.int .i64 (i : Int))),(80,.v (.slice A l.length cap)),(81,.v (.int .i64 (i : Int))),(84,.v (.bool ((Int.tmod (b + 9) 3) == 0)))],[],[],[ownF B (.slice A l.length cap) 13 (((marks mkS 13 k i ++ l.drop i).map segCells).set i [.int .i64 b,.int .i64 (b + 1),.int .i64 (b + 2),.int .i64 (b + 3),.int .i64 (b + 4),.int .i64 (b + 5),.int .i64 (b + 6),.int .i64 (b + 7),.bool ((Int.tmod (b + 8) 3) == 0),.bool x.o.stamp,.int .i64 x.o.val,.int .i64 x.o.echo,.string x.body]),frF w (ownF B (.slice A l.length cap) 13 (l.map segCells)).blk]⟩ i (ownF B (.slice A l.length cap) 13 (((marks mkS 13 k i ++ l.drop i).map segCells).set i [.int .i64 b,.int .i64 (b + 1),.int .i64 (b + 2),.int .i64 (b + 3),.int .i64 (b + 4),.int .i64 (b + 5),.int .i64 (b + 6),.int .i64 (b + 7),.bool ((Int.tmod (b + 8) 3) == 0),.bool x.o.stamp,.int .i64 x.o.val,.int .i64 x.o.echo,.string x.body])) (by kernel_rfl) rfl (by kernel_rfl) (by kernel_rfl) rfl (by kernel_rfl) (by kernel_rfl) (by kernel_rfl) (by kernel_rfl) hlt (by simp) (fun ww h => Own.sl h) (by rw [List.length_set,mark_ln hi]; exact hlt) ?_
 intro b29 o30 hA31
 refine kOF 0 [0,1,5,84,85] ⟨[(0,.v (.slice A l.length cap)),(1,.v (.int .i64 (b + 9))),(5,.v (.int .i64 (i : Int))),(84,.v (.bool ((Int.tmod (b + 9) 3) == 0))),(85,.v (.pointer (some ⟨b29,o30 + i * 13,none⟩)))],[],[],[ownF B (.slice A l.length cap) 13 (((marks mkS 13 k i ++ l.drop i).map segCells).set i [.int .i64 b,.int .i64 (b + 1),.int .i64 (b + 2),.int .i64 (b + 3),.int .i64 (b + 4),.int .i64 (b + 5),.int .i64 (b + 6),.int .i64 (b + 7),.bool ((Int.tmod (b + 8) 3) == 0),.bool x.o.stamp,.int .i64 x.o.val,.int .i64 x.o.echo,.string x.body]),frF w (ownF B (.slice A l.length cap) 13 (l.map segCells)).blk]⟩ (.pointer (some ⟨b29,o30 + i * 13 + 6,none⟩)) rfl (fun _ _ _ ww hr => fld_run (sz := 6) hr rfl Tryz.underlying50 rfl (by kernel_rfl) rfl rfl (by first | rfl | omega)) ?_
 refine kOF 0 [0,1,5,84,86] ⟨[(0,.v (.slice A l.length cap)),(1,.v (.int .i64 (b + 9))),(5,.v (.int .i64 (i : Int))),(84,.v (.bool ((Int.tmod (b + 9) 3) == 0))),(86,.v (.pointer (some ⟨b29,o30 + i * 13 + 6,none⟩)))],[],[],[ownF B (.slice A l.length cap) 13 (((marks mkS 13 k i ++ l.drop i).map segCells).set i [.int .i64 b,.int .i64 (b + 1),.int .i64 (b + 2),.int .i64 (b + 3),.int .i64 (b + 4),.int .i64 (b + 5),.int .i64 (b + 6),.int .i64 (b + 7),.bool ((Int.tmod (b + 8) 3) == 0),.bool x.o.stamp,.int .i64 x.o.val,.int .i64 x.o.echo,.string x.body]),frF w (ownF B (.slice A l.length cap) 13 (l.map segCells)).blk]⟩ (.pointer (some ⟨b29,o30 + i * 13 + 9,none⟩)) rfl (fun _ _ _ ww hr => fld_run (sz := 1) hr rfl Tryz.underlying42 rfl (by kernel_rfl) rfl rfl (by first | rfl | omega)) ?_
 refine xl_stE (K := 13) (po := 9) (B := B) (rs := ((marks mkS 13 k i ++ l.drop i).map segCells)) (row' := [.int .i64 b,.int .i64 (b + 1),.int .i64 (b + 2),.int .i64 (b + 3),.int .i64 (b + 4),.int .i64 (b + 5),.int .i64 (b + 6),.int .i64 (b + 7),.bool ((Int.tmod (b + 8) 3) == 0),.bool ((Int.tmod (b + 9) 3) == 0),.int .i64 x.o.val,.int .i64 x.o.echo,.string x.body]) 0 [0,1,5,84,87] ⟨[(0,.v (.slice A l.length cap)),(1,.v (.int .i64 (b + 9))),(5,.v (.int .i64 (i : Int))),(84,.v (.bool ((Int.tmod (b + 9) 3) == 0))),(87,.v (.pointer (some ⟨b29,o30 + i * 13 + 9,none⟩)))],[],[],[ownF B (.slice A l.length cap) 13 (((marks mkS 13 k i ++ l.drop i).map segCells).set i [.int .i64 b,.int .i64 (b + 1),.int .i64 (b + 2),.int .i64 (b + 3),.int .i64 (b + 4),.int .i64 (b + 5),.int .i64 (b + 6),.int .i64 (b + 7),.bool ((Int.tmod (b + 8) 3) == 0),.bool x.o.stamp,.int .i64 x.o.val,.int .i64 x.o.echo,.string x.body]),frF w (ownF B (.slice A l.length cap) 13 (l.map segCells)).blk]⟩ i [.int .i64 b,.int .i64 (b + 1),.int .i64 (b + 2),.int .i64 (b + 3),.int .i64 (b + 4),.int .i64 (b + 5),.int .i64 (b + 6),.int .i64 (b + 7),.bool ((Int.tmod (b + 8) 3) == 0),.bool x.o.stamp,.int .i64 x.o.val,.int .i64 x.o.echo,.string x.body] 0 (by kernel_rfl) rfl (by kernel_rfl) rfl rfl rfl rfl (by kernel_rfl) (by kernel_rfl) rfl (cutW_le w B) hA31 (by rw [mark_ln hi]; exact hlt) (fun r hr => by obtain ⟨y,_,rfl⟩ := List.mem_map.1 hr; rfl) (by kernel_rfl) (by kernel_rfl) rfl rfl ?_
 refine kEF [0,1,5] ⟨[(0,.v (.slice A l.length cap)),(1,.v (.int .i64 (b + 9))),(5,.v (.int .i64 (i : Int)))],[],[],[ownF B (.slice A l.length cap) 13 (((marks mkS 13 k i ++ l.drop i).map segCells).set i [.int .i64 b,.int .i64 (b + 1),.int .i64 (b + 2),.int .i64 (b + 3),.int .i64 (b + 4),.int .i64 (b + 5),.int .i64 (b + 6),.int .i64 (b + 7),.bool ((Int.tmod (b + 8) 3) == 0),.bool ((Int.tmod (b + 9) 3) == 0),.int .i64 x.o.val,.int .i64 x.o.echo,.string x.body]),frF w (ownF B (.slice A l.length cap) 13 (l.map segCells)).blk]⟩ ?_
 refine kQ ?_
 refine kRS 3 [0,1,5] [(0,.v (.slice A l.length cap)),(1,.v (.int .i64 (IntKind.i64.wrap (b + 9 + 1)))),(5,.v (.int .i64 (i : Int)))] ?_
 refine xl_eqS (t' := [(0,.v (.slice A l.length cap)),(1,.v (.int .i64 (b + 10))),(5,.v (.int .i64 (i : Int)))]) (by rw [show (IntKind.i64.wrap (b + 9 + 1)) = (b + 10) from wrap_to (by omega) (by omega) (by omega)]) ?_
 refine kES [0,1,5] [(0,.v (.slice A l.length cap)),(1,.v (.int .i64 (b + 10))),(5,.v (.int .i64 (i : Int)))] ?_
 refine kQ ?_
 refine xl_elem (kd := .i64) (T := 45) (e := 50) (K := 13) (A := A) (len := l.length) (cap := cap) (rs := (((marks mkS 13 k i ++ l.drop i).map segCells).set i [.int .i64 b,.int .i64 (b + 1),.int .i64 (b + 2),.int .i64 (b + 3),.int .i64 (b + 4),.int .i64 (b + 5),.int .i64 (b + 6),.int .i64 (b + 7),.bool ((Int.tmod (b + 8) 3) == 0),.bool ((Int.tmod (b + 9) 3) == 0),.int .i64 x.o.val,.int .i64 x.o.echo,.string x.body])) 3 [0,1,5,90,91,92] ⟨[(0,.v (.slice A l.length cap)),(1,.v (.int .i64 (b + 10))),(5,.v (.int .i64 (i : Int))),(90,.v (.slice A l.length cap)),(91,.v (.int .i64 (i : Int))),(92,.v (.int .i64 (b + 10)))],[],[],[ownF B (.slice A l.length cap) 13 (((marks mkS 13 k i ++ l.drop i).map segCells).set i [.int .i64 b,.int .i64 (b + 1),.int .i64 (b + 2),.int .i64 (b + 3),.int .i64 (b + 4),.int .i64 (b + 5),.int .i64 (b + 6),.int .i64 (b + 7),.bool ((Int.tmod (b + 8) 3) == 0),.bool ((Int.tmod (b + 9) 3) == 0),.int .i64 x.o.val,.int .i64 x.o.echo,.string x.body]),frF w (ownF B (.slice A l.length cap) 13 (l.map segCells)).blk]⟩ i (ownF B (.slice A l.length cap) 13 (((marks mkS 13 k i ++ l.drop i).map segCells).set i [.int .i64 b,.int .i64 (b + 1),.int .i64 (b + 2),.int .i64 (b + 3),.int .i64 (b + 4),.int .i64 (b + 5),.int .i64 (b + 6),.int .i64 (b + 7),.bool ((Int.tmod (b + 8) 3) == 0),.bool ((Int.tmod (b + 9) 3) == 0),.int .i64 x.o.val,.int .i64 x.o.echo,.string x.body])) (by kernel_rfl) rfl (by kernel_rfl) (by kernel_rfl) rfl (by kernel_rfl) (by kernel_rfl) (by kernel_rfl) (by kernel_rfl) hlt (by simp) (fun ww h => Own.sl h) (by rw [List.length_set,mark_ln hi]; exact hlt) ?_
 intro b32 o33 hA34
 refine kOF 0 [0,1,5,92,93] ⟨[(0,.v (.slice A l.length cap)),(1,.v (.int .i64 (b + 10))),(5,.v (.int .i64 (i : Int))),(92,.v (.int .i64 (b + 10))),(93,.v (.pointer (some ⟨b32,o33 + i * 13,none⟩)))],[],[],[ownF B (.slice A l.length cap) 13 (((marks mkS 13 k i ++ l.drop i).map segCells).set i [.int .i64 b,.int .i64 (b + 1),.int .i64 (b + 2),.int .i64 (b + 3),.int .i64 (b + 4),.int .i64 (b + 5),.int .i64 (b + 6),.int .i64 (b + 7),.bool ((Int.tmod (b + 8) 3) == 0),.bool ((Int.tmod (b + 9) 3) == 0),.int .i64 x.o.val,.int .i64 x.o.echo,.string x.body]),frF w (ownF B (.slice A l.length cap) 13 (l.map segCells)).blk]⟩ (.pointer (some ⟨b32,o33 + i * 13 + 6,none⟩)) rfl (fun _ _ _ ww hr => fld_run (sz := 6) hr rfl Tryz.underlying50 rfl (by kernel_rfl) rfl rfl (by first | rfl | omega)) ?_
 refine kOF 0 [0,1,5,92,94] ⟨[(0,.v (.slice A l.length cap)),(1,.v (.int .i64 (b + 10))),(5,.v (.int .i64 (i : Int))),(92,.v (.int .i64 (b + 10))),(94,.v (.pointer (some ⟨b32,o33 + i * 13 + 6,none⟩)))],[],[],[ownF B (.slice A l.length cap) 13 (((marks mkS 13 k i ++ l.drop i).map segCells).set i [.int .i64 b,.int .i64 (b + 1),.int .i64 (b + 2),.int .i64 (b + 3),.int .i64 (b + 4),.int .i64 (b + 5),.int .i64 (b + 6),.int .i64 (b + 7),.bool ((Int.tmod (b + 8) 3) == 0),.bool ((Int.tmod (b + 9) 3) == 0),.int .i64 x.o.val,.int .i64 x.o.echo,.string x.body]),frF w (ownF B (.slice A l.length cap) 13 (l.map segCells)).blk]⟩ (.pointer (some ⟨b32,o33 + i * 13 + 10,none⟩)) rfl (fun _ _ _ ww hr => fld_run (sz := 1) hr rfl Tryz.underlying42 rfl (by kernel_rfl) rfl rfl (by first | rfl | omega)) ?_
 refine xl_stE (K := 13) (po := 10) (B := B) (rs := ((marks mkS 13 k i ++ l.drop i).map segCells)) (row' := [.int .i64 b,.int .i64 (b + 1),.int .i64 (b + 2),.int .i64 (b + 3),.int .i64 (b + 4),.int .i64 (b + 5),.int .i64 (b + 6),.int .i64 (b + 7),.bool ((Int.tmod (b + 8) 3) == 0),.bool ((Int.tmod (b + 9) 3) == 0),.int .i64 (b + 10),.int .i64 x.o.echo,.string x.body]) 0 [0,1,5,92,95] ⟨[(0,.v (.slice A l.length cap)),(1,.v (.int .i64 (b + 10))),(5,.v (.int .i64 (i : Int))),(92,.v (.int .i64 (b + 10))),(95,.v (.pointer (some ⟨b32,o33 + i * 13 + 10,none⟩)))],[],[],[ownF B (.slice A l.length cap) 13 (((marks mkS 13 k i ++ l.drop i).map segCells).set i [.int .i64 b,.int .i64 (b + 1),.int .i64 (b + 2),.int .i64 (b + 3),.int .i64 (b + 4),.int .i64 (b + 5),.int .i64 (b + 6),.int .i64 (b + 7),.bool ((Int.tmod (b + 8) 3) == 0),.bool ((Int.tmod (b + 9) 3) == 0),.int .i64 x.o.val,.int .i64 x.o.echo,.string x.body]),frF w (ownF B (.slice A l.length cap) 13 (l.map segCells)).blk]⟩ i [.int .i64 b,.int .i64 (b + 1),.int .i64 (b + 2),.int .i64 (b + 3),.int .i64 (b + 4),.int .i64 (b + 5),.int .i64 (b + 6),.int .i64 (b + 7),.bool ((Int.tmod (b + 8) 3) == 0),.bool ((Int.tmod (b + 9) 3) == 0),.int .i64 x.o.val,.int .i64 x.o.echo,.string x.body] 0 (by kernel_rfl) rfl (by kernel_rfl) rfl rfl rfl rfl (by kernel_rfl) (by kernel_rfl) rfl (cutW_le w B) hA34 (by rw [mark_ln hi]; exact hlt) (fun r hr => by obtain ⟨y,_,rfl⟩ := List.mem_map.1 hr; rfl) (by kernel_rfl) (by kernel_rfl) rfl rfl ?_
 refine kEF [0,1,5] ⟨[(0,.v (.slice A l.length cap)),(1,.v (.int .i64 (b + 10))),(5,.v (.int .i64 (i : Int)))],[],[],[ownF B (.slice A l.length cap) 13 (((marks mkS 13 k i ++ l.drop i).map segCells).set i [.int .i64 b,.int .i64 (b + 1),.int .i64 (b + 2),.int .i64 (b + 3),.int .i64 (b + 4),.int .i64 (b + 5),.int .i64 (b + 6),.int .i64 (b + 7),.bool ((Int.tmod (b + 8) 3) == 0),.bool ((Int.tmod (b + 9) 3) == 0),.int .i64 (b + 10),.int .i64 x.o.echo,.string x.body]),frF w (ownF B (.slice A l.length cap) 13 (l.map segCells)).blk]⟩ ?_
 refine kQ ?_
 refine kRS 3 [0,1,5] [(0,.v (.slice A l.length cap)),(1,.v (.int .i64 (IntKind.i64.wrap (b + 10 + 1)))),(5,.v (.int .i64 (i : Int)))] ?_
 refine xl_eqS (t' := [(0,.v (.slice A l.length cap)),(1,.v (.int .i64 (b + 11))),(5,.v (.int .i64 (i : Int)))]) (by rw [show (IntKind.i64.wrap (b + 10 + 1)) = (b + 11) from wrap_to (by omega) (by omega) (by omega)]) ?_
 refine kES [0,1,5] [(0,.v (.slice A l.length cap)),(1,.v (.int .i64 (b + 11))),(5,.v (.int .i64 (i : Int)))] ?_
 refine kQ ?_
 refine xl_elem (kd := .i64) (T := 45) (e := 50) (K := 13) (A := A) (len := l.length) (cap := cap) (rs := (((marks mkS 13 k i ++ l.drop i).map segCells).set i [.int .i64 b,.int .i64 (b + 1),.int .i64 (b + 2),.int .i64 (b + 3),.int .i64 (b + 4),.int .i64 (b + 5),.int .i64 (b + 6),.int .i64 (b + 7),.bool ((Int.tmod (b + 8) 3) == 0),.bool ((Int.tmod (b + 9) 3) == 0),.int .i64 (b + 10),.int .i64 x.o.echo,.string x.body])) 3 [0,1,5,98,99,100] ⟨[(0,.v (.slice A l.length cap)),(1,.v (.int .i64 (b + 11))),(5,.v (.int .i64 (i : Int))),(98,.v (.slice A l.length cap)),(99,.v (.int .i64 (i : Int))),(100,.v (.int .i64 (b + 11)))],[],[],[ownF B (.slice A l.length cap) 13 (((marks mkS 13 k i ++ l.drop i).map segCells).set i [.int .i64 b,.int .i64 (b + 1),.int .i64 (b + 2),.int .i64 (b + 3),.int .i64 (b + 4),.int .i64 (b + 5),.int .i64 (b + 6),.int .i64 (b + 7),.bool ((Int.tmod (b + 8) 3) == 0),.bool ((Int.tmod (b + 9) 3) == 0),.int .i64 (b + 10),.int .i64 x.o.echo,.string x.body]),frF w (ownF B (.slice A l.length cap) 13 (l.map segCells)).blk]⟩ i (ownF B (.slice A l.length cap) 13 (((marks mkS 13 k i ++ l.drop i).map segCells).set i [.int .i64 b,.int .i64 (b + 1),.int .i64 (b + 2),.int .i64 (b + 3),.int .i64 (b + 4),.int .i64 (b + 5),.int .i64 (b + 6),.int .i64 (b + 7),.bool ((Int.tmod (b + 8) 3) == 0),.bool ((Int.tmod (b + 9) 3) == 0),.int .i64 (b + 10),.int .i64 x.o.echo,.string x.body])) (by kernel_rfl) rfl (by kernel_rfl) (by kernel_rfl) rfl (by kernel_rfl) (by kernel_rfl) (by kernel_rfl) (by kernel_rfl) hlt (by simp) (fun ww h => Own.sl h) (by rw [List.length_set,mark_ln hi]; exact hlt) ?_
 intro b35 o36 hA37
 refine kOF 0 [0,1,5,100,101] ⟨[(0,.v (.slice A l.length cap)),(1,.v (.int .i64 (b + 11))),(5,.v (.int .i64 (i : Int))),(100,.v (.int .i64 (b + 11))),(101,.v (.pointer (some ⟨b35,o36 + i * 13,none⟩)))],[],[],[ownF B (.slice A l.length cap) 13 (((marks mkS 13 k i ++ l.drop i).map segCells).set i [.int .i64 b,.int .i64 (b + 1),.int .i64 (b + 2),.int .i64 (b + 3),.int .i64 (b + 4),.int .i64 (b + 5),.int .i64 (b + 6),.int .i64 (b + 7),.bool ((Int.tmod (b + 8) 3) == 0),.bool ((Int.tmod (b + 9) 3) == 0),.int .i64 (b + 10),.int .i64 x.o.echo,.string x.body]),frF w (ownF B (.slice A l.length cap) 13 (l.map segCells)).blk]⟩ (.pointer (some ⟨b35,o36 + i * 13 + 6,none⟩)) rfl (fun _ _ _ ww hr => fld_run (sz := 6) hr rfl Tryz.underlying50 rfl (by kernel_rfl) rfl rfl (by first | rfl | omega)) ?_
 refine kOF 0 [0,1,5,100,102] ⟨[(0,.v (.slice A l.length cap)),(1,.v (.int .i64 (b + 11))),(5,.v (.int .i64 (i : Int))),(100,.v (.int .i64 (b + 11))),(102,.v (.pointer (some ⟨b35,o36 + i * 13 + 6,none⟩)))],[],[],[ownF B (.slice A l.length cap) 13 (((marks mkS 13 k i ++ l.drop i).map segCells).set i [.int .i64 b,.int .i64 (b + 1),.int .i64 (b + 2),.int .i64 (b + 3),.int .i64 (b + 4),.int .i64 (b + 5),.int .i64 (b + 6),.int .i64 (b + 7),.bool ((Int.tmod (b + 8) 3) == 0),.bool ((Int.tmod (b + 9) 3) == 0),.int .i64 (b + 10),.int .i64 x.o.echo,.string x.body]),frF w (ownF B (.slice A l.length cap) 13 (l.map segCells)).blk]⟩ (.pointer (some ⟨b35,o36 + i * 13 + 11,none⟩)) rfl (fun _ _ _ ww hr => fld_run (sz := 1) hr rfl Tryz.underlying42 rfl (by kernel_rfl) rfl rfl (by first | rfl | omega)) ?_
 refine xl_stE (K := 13) (po := 11) (B := B) (rs := ((marks mkS 13 k i ++ l.drop i).map segCells)) (row' := [.int .i64 b,.int .i64 (b + 1),.int .i64 (b + 2),.int .i64 (b + 3),.int .i64 (b + 4),.int .i64 (b + 5),.int .i64 (b + 6),.int .i64 (b + 7),.bool ((Int.tmod (b + 8) 3) == 0),.bool ((Int.tmod (b + 9) 3) == 0),.int .i64 (b + 10),.int .i64 (b + 11),.string x.body]) 0 [0,1,5,100,103] ⟨[(0,.v (.slice A l.length cap)),(1,.v (.int .i64 (b + 11))),(5,.v (.int .i64 (i : Int))),(100,.v (.int .i64 (b + 11))),(103,.v (.pointer (some ⟨b35,o36 + i * 13 + 11,none⟩)))],[],[],[ownF B (.slice A l.length cap) 13 (((marks mkS 13 k i ++ l.drop i).map segCells).set i [.int .i64 b,.int .i64 (b + 1),.int .i64 (b + 2),.int .i64 (b + 3),.int .i64 (b + 4),.int .i64 (b + 5),.int .i64 (b + 6),.int .i64 (b + 7),.bool ((Int.tmod (b + 8) 3) == 0),.bool ((Int.tmod (b + 9) 3) == 0),.int .i64 (b + 10),.int .i64 x.o.echo,.string x.body]),frF w (ownF B (.slice A l.length cap) 13 (l.map segCells)).blk]⟩ i [.int .i64 b,.int .i64 (b + 1),.int .i64 (b + 2),.int .i64 (b + 3),.int .i64 (b + 4),.int .i64 (b + 5),.int .i64 (b + 6),.int .i64 (b + 7),.bool ((Int.tmod (b + 8) 3) == 0),.bool ((Int.tmod (b + 9) 3) == 0),.int .i64 (b + 10),.int .i64 x.o.echo,.string x.body] 0 (by kernel_rfl) rfl (by kernel_rfl) rfl rfl rfl rfl (by kernel_rfl) (by kernel_rfl) rfl (cutW_le w B) hA37 (by rw [mark_ln hi]; exact hlt) (fun r hr => by obtain ⟨y,_,rfl⟩ := List.mem_map.1 hr; rfl) (by kernel_rfl) (by kernel_rfl) rfl rfl ?_
 refine kEF [0,1,5] ⟨[(0,.v (.slice A l.length cap)),(1,.v (.int .i64 (b + 11))),(5,.v (.int .i64 (i : Int)))],[],[],[ownF B (.slice A l.length cap) 13 (((marks mkS 13 k i ++ l.drop i).map segCells).set i [.int .i64 b,.int .i64 (b + 1),.int .i64 (b + 2),.int .i64 (b + 3),.int .i64 (b + 4),.int .i64 (b + 5),.int .i64 (b + 6),.int .i64 (b + 7),.bool ((Int.tmod (b + 8) 3) == 0),.bool ((Int.tmod (b + 9) 3) == 0),.int .i64 (b + 10),.int .i64 (b + 11),.string x.body]),frF w (ownF B (.slice A l.length cap) 13 (l.map segCells)).blk]⟩ ?_
 refine kQ ?_
 refine kRS 3 [0,1,5] [(0,.v (.slice A l.length cap)),(1,.v (.int .i64 (IntKind.i64.wrap (b + 11 + 1)))),(5,.v (.int .i64 (i : Int)))] ?_
 refine xl_eqS (t' := [(0,.v (.slice A l.length cap)),(1,.v (.int .i64 (b + 12))),(5,.v (.int .i64 (i : Int)))]) (by rw [show (IntKind.i64.wrap (b + 11 + 1)) = (b + 12) from wrap_to (by omega) (by omega) (by omega)]) ?_
 refine kES [0,1,5] [(0,.v (.slice A l.length cap)),(1,.v (.int .i64 (b + 12))),(5,.v (.int .i64 (i : Int)))] ?_
 refine kQ ?_
 refine kCS 3 [0,1,5,106,107,108] [(0,.v (.slice A l.length cap)),(1,.v (.int .i64 (b + 12))),(5,.v (.int .i64 (i : Int))),(106,.v (.slice A l.length cap)),(107,.v (.int .i64 (i : Int))),(108,.v (.int .i64 (b + 12)))] 54 [.int .i64 (b + 12)] (some 109) rfl (xc_b fun ww hf => ymarkText_c (b + 12) ww  (by omega)) ?_
 intro _
 refine xl_elem (kd := .i64) (T := 45) (e := 50) (K := 13) (A := A) (len := l.length) (cap := cap) (rs := (((marks mkS 13 k i ++ l.drop i).map segCells).set i [.int .i64 b,.int .i64 (b + 1),.int .i64 (b + 2),.int .i64 (b + 3),.int .i64 (b + 4),.int .i64 (b + 5),.int .i64 (b + 6),.int .i64 (b + 7),.bool ((Int.tmod (b + 8) 3) == 0),.bool ((Int.tmod (b + 9) 3) == 0),.int .i64 (b + 10),.int .i64 (b + 11),.string x.body])) 0 [0,1,5,106,107,109] ⟨[(0,.v (.slice A l.length cap)),(1,.v (.int .i64 (b + 12))),(5,.v (.int .i64 (i : Int))),(106,.v (.slice A l.length cap)),(107,.v (.int .i64 (i : Int))),(109,.v (.string (markText (b + 12))))],[],[],[ownF B (.slice A l.length cap) 13 (((marks mkS 13 k i ++ l.drop i).map segCells).set i [.int .i64 b,.int .i64 (b + 1),.int .i64 (b + 2),.int .i64 (b + 3),.int .i64 (b + 4),.int .i64 (b + 5),.int .i64 (b + 6),.int .i64 (b + 7),.bool ((Int.tmod (b + 8) 3) == 0),.bool ((Int.tmod (b + 9) 3) == 0),.int .i64 (b + 10),.int .i64 (b + 11),.string x.body]),frF w (ownF B (.slice A l.length cap) 13 (l.map segCells)).blk]⟩ i (ownF B (.slice A l.length cap) 13 (((marks mkS 13 k i ++ l.drop i).map segCells).set i [.int .i64 b,.int .i64 (b + 1),.int .i64 (b + 2),.int .i64 (b + 3),.int .i64 (b + 4),.int .i64 (b + 5),.int .i64 (b + 6),.int .i64 (b + 7),.bool ((Int.tmod (b + 8) 3) == 0),.bool ((Int.tmod (b + 9) 3) == 0),.int .i64 (b + 10),.int .i64 (b + 11),.string x.body])) (by kernel_rfl) rfl (by kernel_rfl) (by kernel_rfl) rfl (by kernel_rfl) (by kernel_rfl) (by kernel_rfl) (by kernel_rfl) hlt (by simp) (fun ww h => Own.sl h) (by rw [List.length_set,mark_ln hi]; exact hlt) ?_
 intro b38 o39 hA40
 refine kOF 0 [0,1,5,109,110] ⟨[(0,.v (.slice A l.length cap)),(1,.v (.int .i64 (b + 12))),(5,.v (.int .i64 (i : Int))),(109,.v (.string (markText (b + 12)))),(110,.v (.pointer (some ⟨b38,o39 + i * 13,none⟩)))],[],[],[ownF B (.slice A l.length cap) 13 (((marks mkS 13 k i ++ l.drop i).map segCells).set i [.int .i64 b,.int .i64 (b + 1),.int .i64 (b + 2),.int .i64 (b + 3),.int .i64 (b + 4),.int .i64 (b + 5),.int .i64 (b + 6),.int .i64 (b + 7),.bool ((Int.tmod (b + 8) 3) == 0),.bool ((Int.tmod (b + 9) 3) == 0),.int .i64 (b + 10),.int .i64 (b + 11),.string x.body]),frF w (ownF B (.slice A l.length cap) 13 (l.map segCells)).blk]⟩ (.pointer (some ⟨b38,o39 + i * 13 + 12,none⟩)) rfl (fun _ _ _ ww hr => fld_run (sz := 1) hr rfl Tryz.underlying50 rfl (by kernel_rfl) rfl rfl (by first | rfl | omega)) ?_
 refine xl_stE (K := 13) (po := 12) (B := B) (rs := ((marks mkS 13 k i ++ l.drop i).map segCells)) (row' := [.int .i64 b,.int .i64 (b + 1),.int .i64 (b + 2),.int .i64 (b + 3),.int .i64 (b + 4),.int .i64 (b + 5),.int .i64 (b + 6),.int .i64 (b + 7),.bool ((Int.tmod (b + 8) 3) == 0),.bool ((Int.tmod (b + 9) 3) == 0),.int .i64 (b + 10),.int .i64 (b + 11),.string (markText (b + 12))]) 0 [0,1,5,109,111] ⟨[(0,.v (.slice A l.length cap)),(1,.v (.int .i64 (b + 12))),(5,.v (.int .i64 (i : Int))),(109,.v (.string (markText (b + 12)))),(111,.v (.pointer (some ⟨b38,o39 + i * 13 + 12,none⟩)))],[],[],[ownF B (.slice A l.length cap) 13 (((marks mkS 13 k i ++ l.drop i).map segCells).set i [.int .i64 b,.int .i64 (b + 1),.int .i64 (b + 2),.int .i64 (b + 3),.int .i64 (b + 4),.int .i64 (b + 5),.int .i64 (b + 6),.int .i64 (b + 7),.bool ((Int.tmod (b + 8) 3) == 0),.bool ((Int.tmod (b + 9) 3) == 0),.int .i64 (b + 10),.int .i64 (b + 11),.string x.body]),frF w (ownF B (.slice A l.length cap) 13 (l.map segCells)).blk]⟩ i [.int .i64 b,.int .i64 (b + 1),.int .i64 (b + 2),.int .i64 (b + 3),.int .i64 (b + 4),.int .i64 (b + 5),.int .i64 (b + 6),.int .i64 (b + 7),.bool ((Int.tmod (b + 8) 3) == 0),.bool ((Int.tmod (b + 9) 3) == 0),.int .i64 (b + 10),.int .i64 (b + 11),.string x.body] 0 (by kernel_rfl) rfl (by kernel_rfl) rfl rfl rfl rfl (by kernel_rfl) (by kernel_rfl) rfl (cutW_le w B) hA40 (by rw [mark_ln hi]; exact hlt) (fun r hr => by obtain ⟨y,_,rfl⟩ := List.mem_map.1 hr; rfl) (by kernel_rfl) (by kernel_rfl) rfl rfl ?_
 refine kEF [0,1,5] ⟨[(0,.v (.slice A l.length cap)),(1,.v (.int .i64 (b + 12))),(5,.v (.int .i64 (i : Int)))],[],[],[ownF B (.slice A l.length cap) 13 (((marks mkS 13 k i ++ l.drop i).map segCells).set i [.int .i64 b,.int .i64 (b + 1),.int .i64 (b + 2),.int .i64 (b + 3),.int .i64 (b + 4),.int .i64 (b + 5),.int .i64 (b + 6),.int .i64 (b + 7),.bool ((Int.tmod (b + 8) 3) == 0),.bool ((Int.tmod (b + 9) 3) == 0),.int .i64 (b + 10),.int .i64 (b + 11),.string (markText (b + 12))]),frF w (ownF B (.slice A l.length cap) 13 (l.map segCells)).blk]⟩ ?_
 refine kG ?_
 refine kRS 3 [0,1,5] [(0,.v (.slice A l.length cap)),(1,.v (.int .i64 (IntKind.i64.wrap (b + 12 + 1)))),(5,.v (.int .i64 (i : Int)))] ?_
 refine xl_eqS (t' := [(0,.v (.slice A l.length cap)),(1,.v (.int .i64 (b + 13))),(5,.v (.int .i64 (i : Int)))]) (by rw [show (IntKind.i64.wrap (b + 12 + 1)) = (b + 13) from wrap_to (by omega) (by omega) (by omega)]) ?_
 refine kES [0,1,5] [(0,.v (.slice A l.length cap)),(1,.v (.int .i64 (b + 13))),(5,.v (.int .i64 (i : Int)))] ?_
 refine kG ?_
 refine kRS 3 [0,1,5] [(0,.v (.slice A l.length cap)),(1,.v (.int .i64 (b + 13))),(5,.v (.int .i64 (IntKind.i64.wrap ((i : Int) + 1))))] ?_
 refine xl_eqS (t' := [(0,.v (.slice A l.length cap)),(1,.v (.int .i64 (b + 13))),(5,.v (.int .i64 ((i : Int) + 1)))]) (by rw [show (IntKind.i64.wrap ((i : Int) + 1)) = ((i : Int) + 1) from wrap_id (by omega) (by omega)]) ?_
 refine kES [0,1,5] [(0,.v (.slice A l.length cap)),(1,.v (.int .i64 (b + 13))),(5,.v (.int .i64 ((i : Int) + 1)))] ?_
 have e : b + 13 = k + 13 * ((i + 1 : Nat) : Int) := by omega
 rw [e]
 subst hb
 exact ⟨⟨(i + 1),hlt⟩,(wk_fact0 (congrArg (fun z => ownF B (.slice A l.length cap) 13 z) (mark_next (f := segCells) (mk := mkS) (c := 13) (k := k) hlt))).trans <| kF 0 0 [0,1,5],by show (fun (i : Nat) => l.length - i) (i + 1) < l.length - i; (dsimp only; omega)⟩
 have h1p := of_decide_eq_false h1
 have hge : i = l.length := by simp at h1; omega
 refine xw_exit ?_
 refine kQ ?_
 refine kES [4] [(4,.v (.int .i64 (k + 13 * (i : Int))))] ?_
 refine kR ?_
 subst hge
 exact ⟨[.int .i64 (k + 13 * (l.length : Int))],by kernel_rfl,fun w' hb hf => ⟨ret_int (by simp),by have := hf (ownF B (.slice A l.length cap) 13 ((marks mkS 13 k l.length ++ l.drop l.length).map segCells)) (by simp); rw [List.drop_length,List.append_nil] at this; exact this,frF_chgd (hf (frF w (ownF B (.slice A l.length cap) 13 (l.map segCells)).blk) (by simp)) hb rfl rfl rfl⟩⟩
theorem ymarkReceiver_c (x : Rcv) (x_heldV : Value) (k : Int) (w : World) (B : Nat) (hB : B ≤ w.heap.size) (h : Own w B x_heldV 2 (x.held.map pceCells)) (hk0 : 0 ≤ k) (hk : k ≤ 4503599627370496) (hl : x.held.length ≤ 1048576) : Calls Tryz.prog 53 #[.agg #[.int .i64 x.next, .string x.data, x_heldV, .int .i64 x.fin, .bool x.done], .int .i64 k] w fun e w' => e = .returned (.int .i64 (k + 2 * (x.held.length : Int))) ∧ Own w' B x_heldV 2 ((marks mkP 2 k x.held.length).map pceCells) ∧ Chgd (ownF B x_heldV 2 (x.held.map pceCells)).blk w w' := by
 obtain ⟨A,cap,hv⟩ := h.form
 rw [List.length_map] at hv; subst hv
 refine x_callsM (args := [.agg (rcvL x (.slice A x.held.length cap)).toArray,.int .i64 k]) (fn := Tryz.f53) [ownF B (.slice A x.held.length cap) 2 (x.held.map pceCells),frF w (ownF B (.slice A x.held.length cap) 2 (x.held.map pceCells)).blk] B Tryz.func53 rfl Tryz.ntmps53 rfl hB (by simp only [List.mem_cons,List.not_mem_nil,or_false,forall_eq_or_imp,forall_eq]; exact ⟨h,frF_start w _⟩) apart_fr ?_
 refine kQ ?_
 refine kEF [1,2] ⟨[(1,.v (.int .i64 k)),(2,.p 0 0)],[⟨41,rcvL x (.slice A x.held.length cap)⟩],[],[ownF B (.slice A x.held.length cap) 2 (x.held.map pceCells),frF w (ownF B (.slice A x.held.length cap) 2 (x.held.map pceCells)).blk]⟩ ?_
 refine kQ ?_
 refine kWS 3 [1,6,7] [(1,.v (.int .i64 k)),(6,.v (.slice A x.held.length cap)),(7,.v (.int .i64 k))] 105 [.slice A x.held.length cap,.int .i64 k] (some 8) 0 rfl rfl (fun ww b h hb => Nat.le_trans (cutW_le w B) (vblk_lo h hb)) (xcm_own marks_ne fun ww hw hf => ymarkPieceS_c (.slice A x.held.length cap) x.held k ww B (Nat.le_trans (by first | exact Nat.le_refl _ | exact Nat.le_of_eq (cutW_size hB).symm) hw) (hf (ownF B (.slice A x.held.length cap) 2 (x.held.map pceCells)) (by simp)) (by omega) (by omega) (by omega)) ?_
 intro _
 refine kES [1] [(1,.v (.int .i64 (k + 2 * (x.held.length : Int))))] ?_
 refine kQ ?_
 refine kES [4] [(4,.v (.int .i64 (k + 2 * (x.held.length : Int))))] ?_
 refine kR ?_
 exact ⟨[.int .i64 (k + 2 * (x.held.length : Int))],by kernel_rfl,fun w' hb hf => ⟨rfl,hf (ownF B (.slice A x.held.length cap) 2 ((marks mkP 2 k x.held.length).map pceCells)) (by simp),frF_chgd (hf (frF w (ownF B (.slice A x.held.length cap) 2 (x.held.map pceCells)).blk) (by simp)) hb rfl rfl rfl⟩⟩
theorem ymarkConn_c (x : Con) (x_r_heldV : Value) (k : Int) (w : World) (B : Nat) (hB : B ≤ w.heap.size) (h : Own w B x_r_heldV 2 (x.r.held.map pceCells)) (hk0 : 0 ≤ k) (hk : k ≤ 4503599627370496) (hl : x.r.held.length ≤ 1048576) : Calls Tryz.prog 14 #[.agg #[.int .i64 x.t.ip, .int .i64 x.t.port, .int .i64 x.t.my, .int .i64 x.state, .int .i64 x.s.una, .string x.s.data, .int .i64 x.s.sent, .bool x.s.fin, .bool x.s.finSent, .bool x.s.done, .int .i64 x.r.next, .string x.r.data, x_r_heldV, .int .i64 x.r.fin, .bool x.r.done, .int .i64 x.window, .int .i64 x.most, .int .i64 x.o.mss, .int .i64 x.o.scale, .bool x.o.sack, .bool x.o.stamp, .int .i64 x.o.val, .int .i64 x.o.echo, .int .i64 x.timer, .int .i64 x.tries], .int .i64 k] w fun e w' => e = .returned (.int .i64 (k + 2 * (x.r.held.length : Int))) ∧ Own w' B x_r_heldV 2 ((marks mkP 2 k x.r.held.length).map pceCells) ∧ Chgd (ownF B x_r_heldV 2 (x.r.held.map pceCells)).blk w w' := by
 obtain ⟨A,cap,hv⟩ := h.form
 rw [List.length_map] at hv; subst hv
 refine x_callsM (args := [.agg (conL x (.slice A x.r.held.length cap)).toArray,.int .i64 k]) (fn := Tryz.f14) [ownF B (.slice A x.r.held.length cap) 2 (x.r.held.map pceCells),frF w (ownF B (.slice A x.r.held.length cap) 2 (x.r.held.map pceCells)).blk] B Tryz.func14 rfl Tryz.ntmps14 rfl hB (by simp only [List.mem_cons,List.not_mem_nil,or_false,forall_eq_or_imp,forall_eq]; exact ⟨h,frF_start w _⟩) apart_fr ?_
 refine kQ ?_
 refine kEF [1,2] ⟨[(1,.v (.int .i64 k)),(2,.p 0 0)],[⟨44,conL x (.slice A x.r.held.length cap)⟩],[],[ownF B (.slice A x.r.held.length cap) 2 (x.r.held.map pceCells),frF w (ownF B (.slice A x.r.held.length cap) 2 (x.r.held.map pceCells)).blk]⟩ ?_
 refine kQ ?_
 refine kWS 3 [1,6,7] [(1,.v (.int .i64 k)),(6,.v (.agg (rcvL x.r (.slice A x.r.held.length cap)).toArray)),(7,.v (.int .i64 k))] 53 [.agg (rcvL x.r (.slice A x.r.held.length cap)).toArray,.int .i64 k] (some 8) 0 rfl rfl (fun ww b h hb => Nat.le_trans (cutW_le w B) (vblk_lo h hb)) (xcm_own marks_ne fun ww hw hf => ymarkReceiver_c x.r (.slice A x.r.held.length cap) k ww B (Nat.le_trans (by first | exact Nat.le_refl _ | exact Nat.le_of_eq (cutW_size hB).symm) hw) (hf (ownF B (.slice A x.r.held.length cap) 2 (x.r.held.map pceCells)) (by simp)) (by omega) (by omega) (by omega)) ?_
 intro _
 refine kES [1] [(1,.v (.int .i64 (k + 2 * (x.r.held.length : Int))))] ?_
 refine kQ ?_
 refine kES [4] [(4,.v (.int .i64 (k + 2 * (x.r.held.length : Int))))] ?_
 refine kR ?_
 exact ⟨[.int .i64 (k + 2 * (x.r.held.length : Int))],by kernel_rfl,fun w' hb hf => ⟨rfl,hf (ownF B (.slice A x.r.held.length cap) 2 ((marks mkP 2 k x.r.held.length).map pceCells)) (by simp),frF_chgd (hf (frF w (ownF B (.slice A x.r.held.length cap) 2 (x.r.held.map pceCells)).blk) (by simp)) hb rfl rfl rfl⟩⟩
theorem yheldPieceS_c (a : List Pce) (aV : Value) (k : Int) (w : World) (hl_aV : Sl w aV 2 (a.map pceCells)) (ha : a = marks mkP 2 k a.length) (hk0 : 0 ≤ k) (hk : k ≤ 4503599627370496) (hl : a.length ≤ 1048576) : Calls Tryz.prog 106 #[aV, .int .i64 k] w fun e w' => e = .returned (.int .i64 (k + 2 * (a.length : Int))) ∧ Below w.heap.size w w' := by
 obtain ⟨Aa,Ca,hva⟩ := hl_aV.form
 rw [List.length_map] at hva; subst hva
 have hna := hl_aV.len; rw [List.length_map] at hna
 have hqa := Sl.capLe hl_aV
 refine x_calls (args := [.slice Aa a.length Ca,.int .i64 k]) (fn := Tryz.f106) [slF (.slice Aa a.length Ca) 2 (a.map pceCells)] Tryz.func106 rfl Tryz.ntmps106 rfl (by simp only [List.mem_cons,List.not_mem_nil,or_false,forall_eq_or_imp,forall_eq]; exact ⟨rfl,hl_aV⟩) ?_
 refine kQ ?_
 refine kEF [0,1] ⟨[(0,.v (.slice Aa a.length Ca)),(1,.v (.int .i64 k))],[],[],[slF (.slice Aa a.length Ca) 2 (a.map pceCells)]⟩ ?_
 refine kS ?_
 refine kQ ?_
 refine kES [0,1,5] [(0,.v (.slice Aa a.length Ca)),(1,.v (.int .i64 k)),(5,.v (.int .i64 0))] ?_
 refine xw_block ?_
 have e0 : k + 2 * ((0 : Nat) : Int) = k := by omega
 refine xw_eq (st' := ⟨[(0,.v (.slice Aa a.length Ca)),(1,.v (.int .i64 (k + 2 * ((0 : Nat) : Int)))),(5,.v (.int .i64 0))],[],[],[slF (.slice Aa a.length Ca) 2 (a.map pceCells)]⟩) (by rw [e0]) ?_
 refine xw_loopW (α := {x : Nat // (fun (i : Nat) => i ≤ a.length) x}) (fun x => (fun (i : Nat) => (⟨[(0,.v (.slice Aa a.length Ca)),(1,.v (.int .i64 (k + 2 * (i : Int)))),(5,.v (.int .i64 (i : Int)))],[],[],[slF (.slice Aa a.length Ca) 2 (a.map pceCells)]⟩ : St)) x.1) (fun x => (fun (i : Nat) => a.length - i) x.1) ⟨(0),Nat.zero_le _⟩ (kF 0 0 [0,1,5]) ?_
 rintro ⟨i,hi⟩
 try dsimp only
 try dsimp only at hi
 refine kS ?_
 refine kQ ?_
 refine kES [0,1,5,9] [(0,.v (.slice Aa a.length Ca)),(1,.v (.int .i64 (k + 2 * (i : Int)))),(5,.v (.int .i64 (i : Int))),(9,.v (.bool (decide ((i : Int) < ((a.length : Nat) : Int)))))] ?_
 refine kC (decide ((i : Int) < ((a.length : Nat) : Int))) (fun h1 => ?_) (fun h1 => ?_)
 have h1p := of_decide_eq_true h1
 have hlt : i < a.length := by simpa using h1
 obtain ⟨x,hx⟩ : ∃ x,a[i]? = some x := ⟨_,List.getElem?_eq_getElem hlt⟩
 have hxe := marks_get (mk := mkP) (c := 2) (k := k) (n := a.length) (show _ = some x by rw [← ha]; exact hx)
 obtain ⟨b,hb⟩ : ∃ b,b = k + 2 * (i : Int) := ⟨_,rfl⟩
 rw [← hb] at hxe ⊢
 refine kK ?_
 refine kS ?_
 refine xw_block ?_
 refine kS ?_
 refine kQ ?_
 refine xl_index (kd := .i64) (T := 39) (e := 85) (K := 2) 2 [0,1,5,12,13] ⟨[(0,.v (.slice Aa a.length Ca)),(1,.v (.int .i64 b)),(5,.v (.int .i64 (i : Int))),(12,.v (.slice Aa a.length Ca)),(13,.v (.int .i64 (i : Int)))],[],[],[slF (.slice Aa a.length Ca) 2 (a.map pceCells)]⟩ i [.int .i64 b,.string (markText (b + 1))] (slF (.slice Aa a.length Ca) 2 (a.map pceCells)) (by kernel_rfl) rfl (by kernel_rfl) rfl rfl (by kernel_rfl) (by kernel_rfl) (by kernel_rfl) (by kernel_rfl) hlt (by simp) (fun w h => h) (fun b h => h) (by simp only [List.getElem?_map,hx,hxe]; rfl) ?_
 refine kES [0,1,5,18] [(0,.v (.slice Aa a.length Ca)),(1,.v (.int .i64 b)),(5,.v (.int .i64 (i : Int))),(18,.v (.bool (b != b)))] ?_
 refine kC (b != b) (fun h2 => ?_) (fun h2 => ?_)
 simp at h2
 have h2p := neF h2
 refine kK ?_
 refine kQ ?_
 refine kRS 3 [0,1,5] [(0,.v (.slice Aa a.length Ca)),(1,.v (.int .i64 (IntKind.i64.wrap (b + 1)))),(5,.v (.int .i64 (i : Int)))] ?_
 refine xl_eqS (t' := [(0,.v (.slice Aa a.length Ca)),(1,.v (.int .i64 (b + 1))),(5,.v (.int .i64 (i : Int)))]) (by rw [show (IntKind.i64.wrap (b + 1)) = (b + 1) from wrap_id (by omega) (by omega)]) ?_
 refine kES [0,1,5] [(0,.v (.slice Aa a.length Ca)),(1,.v (.int .i64 (b + 1))),(5,.v (.int .i64 (i : Int)))] ?_
 refine kS ?_
 refine kS ?_
 refine xws_start ?_
 refine xws_row (K := 2) (j := i) [.int .i64 b,.string (markText (b + 1))] (slF (.slice Aa a.length Ca) 2 (a.map pceCells)) (fun _ _ h => h) (by simp) (fun w h => h) (fun b h => h) (by simp only [List.getElem?_map,hx,hxe]; rfl) (fun bq3 offq3 hAq3 => ?_)
 refine xws_regionE [] (by kernel_rfl) (fun ρ σ hq4 => ?_)
 refine kTS [0,1,5] [26,22,21,0,1,5] 5 [(26,.v (.int .i64 (b + 1))),(22,.v (.int .i64 (i : Int))),(21,.v (.slice Aa a.length Ca)),(0,.v (.slice Aa a.length Ca)),(1,.v (.int .i64 (b + 1))),(5,.v (.int .i64 (i : Int)))] ?_
 refine xe_takeI (kd := .i64) (T := 39) (e := 85) (K := 2) (j := i) (A := Aa) (len := a.length) (cap := Ca) 2 1 _ rfl (by kernel_rfl) (by kernel_rfl) (by kernel_rfl) (fun _ _ h => h) (by kernel_rfl) rfl rfl (by kernel_rfl) (by kernel_rfl) (by kernel_rfl) (by kernel_rfl) hlt hAq3 hq4.2 (by kernel_rfl) rfl ?_
 refine kTS [3,4] [25,26,0,1,5] 2 [(25,.v (.string (markText (b + 1)))),(26,.v (.int .i64 (b + 1))),(0,.v (.slice Aa a.length Ca)),(1,.v (.int .i64 (b + 1))),(5,.v (.int .i64 (i : Int)))] ?_
 refine kA [6] ?_
 refine kSC 6 54 [.int .i64 (b + 1)] (some 27) rfl (xc_b fun ww hf => ymarkText_c (b + 1) ww  (by omega)) ?_
 intro _
 refine kTS [7] [28,0,1,5] 0 [(28,.v (.bool (!((markText (b + 1)).toList == (markText (b + 1)).toList)))),(0,.v (.slice Aa a.length Ca)),(1,.v (.int .i64 (b + 1))),(5,.v (.int .i64 (i : Int)))] ?_
 refine kZ ?_
 refine kC (!((markText (b + 1)).toList == (markText (b + 1)).toList)) (fun h5 => ?_) (fun h5 => ?_)
 have h5n := not_t h5
 simp at h5n
 have h5n := not_f h5
 have h5np := h5n; simp only [beq_iff_eq,bne_iff_ne,beq_eq_false_iff_ne,bne_eq_false_iff_eq,ne_eq,toList_lit0] at h5np
 refine kK ?_
 refine kG ?_
 refine kRS 3 [0,1,5] [(0,.v (.slice Aa a.length Ca)),(1,.v (.int .i64 (IntKind.i64.wrap (b + 1 + 1)))),(5,.v (.int .i64 (i : Int)))] ?_
 refine xl_eqS (t' := [(0,.v (.slice Aa a.length Ca)),(1,.v (.int .i64 (b + 2))),(5,.v (.int .i64 (i : Int)))]) (by rw [show (IntKind.i64.wrap (b + 1 + 1)) = (b + 2) from wrap_to (by omega) (by omega) (by omega)]) ?_
 refine kES [0,1,5] [(0,.v (.slice Aa a.length Ca)),(1,.v (.int .i64 (b + 2))),(5,.v (.int .i64 (i : Int)))] ?_
 refine kG ?_
 refine kRS 3 [0,1,5] [(0,.v (.slice Aa a.length Ca)),(1,.v (.int .i64 (b + 2))),(5,.v (.int .i64 (IntKind.i64.wrap ((i : Int) + 1))))] ?_
 refine xl_eqS (t' := [(0,.v (.slice Aa a.length Ca)),(1,.v (.int .i64 (b + 2))),(5,.v (.int .i64 ((i : Int) + 1)))]) (by rw [show (IntKind.i64.wrap ((i : Int) + 1)) = ((i : Int) + 1) from wrap_id (by omega) (by omega)]) ?_
 refine kES [0,1,5] [(0,.v (.slice Aa a.length Ca)),(1,.v (.int .i64 (b + 2))),(5,.v (.int .i64 ((i : Int) + 1)))] ?_
 have e : b + 2 = k + 2 * ((i + 1 : Nat) : Int) := by omega
 rw [e]
 exact ⟨⟨(i + 1),hlt⟩,kF 0 0 [0,1,5],by show (fun (i : Nat) => a.length - i) (i + 1) < a.length - i; (dsimp only; omega)⟩
 have h1p := of_decide_eq_false h1
 have hge : i = a.length := by simp at h1; omega
 refine xw_exit ?_
 refine kQ ?_
 refine kES [4] [(4,.v (.int .i64 (k + 2 * (i : Int))))] ?_
 refine kR ?_
 have hmod : k + 2 * (a.length : Int) = (k + 2 * (i : Int)) := by first | rfl | (rw [hge])
 exact ⟨[.int .i64 (k + 2 * (i : Int))],by kernel_rfl,fun w' hb hf => by rw [hmod]; exact ⟨rfl,hb⟩⟩
theorem yheldPieceS_m (n : Nat) (v : Value) (k : Int) (w : World) (hs : Sl w v 2 ((marks mkP 2 k n).map pceCells)) (hk0 : 0 ≤ k) (hk : k ≤ 4503599627370496) (hl : n ≤ 1048576) : Calls Tryz.prog 106 #[v, .int .i64 k] w fun e w' => e = .returned (.int .i64 (k + 2 * (n : Int))) ∧ Below w.heap.size w w' := by
 have := yheldPieceS_c (marks mkP 2 k n) v k w hs (by rw [marks_len]) hk0 hk (by rw [marks_len]; exact hl)
 rw [marks_len] at this; exact this
theorem yheldSegmentS_c (a : List Seg) (aV : Value) (k : Int) (w : World) (hl_aV : Sl w aV 13 (a.map segCells)) (ha : a = marks mkS 13 k a.length) (hk0 : 0 ≤ k) (hk : k ≤ 4503599627370496) (hl : a.length ≤ 1048576) : Calls Tryz.prog 17 #[aV, .int .i64 k] w fun e w' => e = .returned (.int .i64 (k + 13 * (a.length : Int))) ∧ Below w.heap.size w w' := by
 obtain ⟨Aa,Ca,hva⟩ := hl_aV.form
 rw [List.length_map] at hva; subst hva
 have hna := hl_aV.len; rw [List.length_map] at hna
 have hqa := Sl.capLe hl_aV
 refine x_calls (args := [.slice Aa a.length Ca,.int .i64 k]) (fn := Tryz.f17) [slF (.slice Aa a.length Ca) 13 (a.map segCells)] Tryz.func17 rfl Tryz.ntmps17 rfl (by simp only [List.mem_cons,List.not_mem_nil,or_false,forall_eq_or_imp,forall_eq]; exact ⟨rfl,hl_aV⟩) ?_
 refine kQ ?_
 refine kEF [0,1] ⟨[(0,.v (.slice Aa a.length Ca)),(1,.v (.int .i64 k))],[],[],[slF (.slice Aa a.length Ca) 13 (a.map segCells)]⟩ ?_
 refine kS ?_
 refine kQ ?_
 refine kES [0,1,5] [(0,.v (.slice Aa a.length Ca)),(1,.v (.int .i64 k)),(5,.v (.int .i64 0))] ?_
 refine xw_block ?_
 have e0 : k + 13 * ((0 : Nat) : Int) = k := by omega
 refine xw_eq (st' := ⟨[(0,.v (.slice Aa a.length Ca)),(1,.v (.int .i64 (k + 13 * ((0 : Nat) : Int)))),(5,.v (.int .i64 0))],[],[],[slF (.slice Aa a.length Ca) 13 (a.map segCells)]⟩) (by rw [e0]) ?_
 refine xw_loopW (α := {x : Nat // (fun (i : Nat) => i ≤ a.length) x}) (fun x => (fun (i : Nat) => (⟨[(0,.v (.slice Aa a.length Ca)),(1,.v (.int .i64 (k + 13 * (i : Int)))),(5,.v (.int .i64 (i : Int)))],[],[],[slF (.slice Aa a.length Ca) 13 (a.map segCells)]⟩ : St)) x.1) (fun x => (fun (i : Nat) => a.length - i) x.1) ⟨(0),Nat.zero_le _⟩ (kF 0 0 [0,1,5]) ?_
 rintro ⟨i,hi⟩
 try dsimp only
 try dsimp only at hi
 refine kS ?_
 refine kQ ?_
 refine kES [0,1,5,9] [(0,.v (.slice Aa a.length Ca)),(1,.v (.int .i64 (k + 13 * (i : Int)))),(5,.v (.int .i64 (i : Int))),(9,.v (.bool (decide ((i : Int) < ((a.length : Nat) : Int)))))] ?_
 refine kC (decide ((i : Int) < ((a.length : Nat) : Int))) (fun h1 => ?_) (fun h1 => ?_)
 have h1p := of_decide_eq_true h1
 have hlt : i < a.length := by simpa using h1
 obtain ⟨x,hx⟩ : ∃ x,a[i]? = some x := ⟨_,List.getElem?_eq_getElem hlt⟩
 have hxe := marks_get (mk := mkS) (c := 13) (k := k) (n := a.length) (show _ = some x by rw [← ha]; exact hx)
 obtain ⟨b,hb⟩ : ∃ b,b = k + 13 * (i : Int) := ⟨_,rfl⟩
 rw [← hb] at hxe ⊢
 refine kK ?_
 refine kS ?_
 refine xw_block ?_
 refine kS ?_
 refine kQ ?_
 refine xl_index (kd := .i64) (T := 45) (e := 50) (K := 13) 2 [0,1,5,12,13] ⟨[(0,.v (.slice Aa a.length Ca)),(1,.v (.int .i64 b)),(5,.v (.int .i64 (i : Int))),(12,.v (.slice Aa a.length Ca)),(13,.v (.int .i64 (i : Int)))],[],[],[slF (.slice Aa a.length Ca) 13 (a.map segCells)]⟩ i [.int .i64 b,.int .i64 (b + 1),.int .i64 (b + 2),.int .i64 (b + 3),.int .i64 (b + 4),.int .i64 (b + 5),.int .i64 (b + 6),.int .i64 (b + 7),.bool ((Int.tmod (b + 8) 3) == 0),.bool ((Int.tmod (b + 9) 3) == 0),.int .i64 (b + 10),.int .i64 (b + 11),.string (markText (b + 12))] (slF (.slice Aa a.length Ca) 13 (a.map segCells)) (by kernel_rfl) rfl (by kernel_rfl) rfl rfl (by kernel_rfl) (by kernel_rfl) (by kernel_rfl) (by kernel_rfl) hlt (by simp) (fun w h => h) (fun b h => h) (by simp only [List.getElem?_map,hx,hxe]; rfl) ?_
 refine kES [0,1,5,18] [(0,.v (.slice Aa a.length Ca)),(1,.v (.int .i64 b)),(5,.v (.int .i64 (i : Int))),(18,.v (.bool (b != b)))] ?_
 refine kC (b != b) (fun h2 => ?_) (fun h2 => ?_)
 simp at h2
 have h2p := neF h2
 refine kK ?_
 refine kQ ?_
 refine kRS 3 [0,1,5] [(0,.v (.slice Aa a.length Ca)),(1,.v (.int .i64 (IntKind.i64.wrap (b + 1)))),(5,.v (.int .i64 (i : Int)))] ?_
 refine xl_eqS (t' := [(0,.v (.slice Aa a.length Ca)),(1,.v (.int .i64 (b + 1))),(5,.v (.int .i64 (i : Int)))]) (by rw [show (IntKind.i64.wrap (b + 1)) = (b + 1) from wrap_id (by omega) (by omega)]) ?_
 refine kES [0,1,5] [(0,.v (.slice Aa a.length Ca)),(1,.v (.int .i64 (b + 1))),(5,.v (.int .i64 (i : Int)))] ?_
 refine kS ?_
 refine kQ ?_
 refine xl_indexS (kd := .i64) (T := 45) (e := 50) (K := 13) 2 [0,1,5,21,22] [(0,.v (.slice Aa a.length Ca)),(1,.v (.int .i64 (b + 1))),(5,.v (.int .i64 (i : Int))),(21,.v (.slice Aa a.length Ca)),(22,.v (.int .i64 (i : Int)))] i [.int .i64 b,.int .i64 (b + 1),.int .i64 (b + 2),.int .i64 (b + 3),.int .i64 (b + 4),.int .i64 (b + 5),.int .i64 (b + 6),.int .i64 (b + 7),.bool ((Int.tmod (b + 8) 3) == 0),.bool ((Int.tmod (b + 9) 3) == 0),.int .i64 (b + 10),.int .i64 (b + 11),.string (markText (b + 12))] (slF (.slice Aa a.length Ca) 13 (a.map segCells)) (by kernel_rfl) rfl (by kernel_rfl) rfl rfl (by kernel_rfl) (by kernel_rfl) (by kernel_rfl) (by kernel_rfl) hlt (by simp) (fun w h => h) (fun b h => h) (by simp only [List.getElem?_map,hx,hxe]; rfl) ?_
 refine kES [0,1,5,27] [(0,.v (.slice Aa a.length Ca)),(1,.v (.int .i64 (b + 1))),(5,.v (.int .i64 (i : Int))),(27,.v (.bool ((b + 1) != (b + 1))))] ?_
 refine kC ((b + 1) != (b + 1)) (fun h3 => ?_) (fun h3 => ?_)
 simp at h3
 have h3p := neF h3
 refine kK ?_
 refine kQ ?_
 refine kRS 3 [0,1,5] [(0,.v (.slice Aa a.length Ca)),(1,.v (.int .i64 (IntKind.i64.wrap (b + 1 + 1)))),(5,.v (.int .i64 (i : Int)))] ?_
 refine xl_eqS (t' := [(0,.v (.slice Aa a.length Ca)),(1,.v (.int .i64 (b + 2))),(5,.v (.int .i64 (i : Int)))]) (by rw [show (IntKind.i64.wrap (b + 1 + 1)) = (b + 2) from wrap_to (by omega) (by omega) (by omega)]) ?_
 refine kES [0,1,5] [(0,.v (.slice Aa a.length Ca)),(1,.v (.int .i64 (b + 2))),(5,.v (.int .i64 (i : Int)))] ?_
 refine kS ?_
 refine kQ ?_
 refine xl_indexS (kd := .i64) (T := 45) (e := 50) (K := 13) 2 [0,1,5,30,31] [(0,.v (.slice Aa a.length Ca)),(1,.v (.int .i64 (b + 2))),(5,.v (.int .i64 (i : Int))),(30,.v (.slice Aa a.length Ca)),(31,.v (.int .i64 (i : Int)))] i [.int .i64 b,.int .i64 (b + 1),.int .i64 (b + 2),.int .i64 (b + 3),.int .i64 (b + 4),.int .i64 (b + 5),.int .i64 (b + 6),.int .i64 (b + 7),.bool ((Int.tmod (b + 8) 3) == 0),.bool ((Int.tmod (b + 9) 3) == 0),.int .i64 (b + 10),.int .i64 (b + 11),.string (markText (b + 12))] (slF (.slice Aa a.length Ca) 13 (a.map segCells)) (by kernel_rfl) rfl (by kernel_rfl) rfl rfl (by kernel_rfl) (by kernel_rfl) (by kernel_rfl) (by kernel_rfl) hlt (by simp) (fun w h => h) (fun b h => h) (by simp only [List.getElem?_map,hx,hxe]; rfl) ?_
 refine kES [0,1,5,36] [(0,.v (.slice Aa a.length Ca)),(1,.v (.int .i64 (b + 2))),(5,.v (.int .i64 (i : Int))),(36,.v (.bool ((b + 2) != (b + 2))))] ?_
 refine kC ((b + 2) != (b + 2)) (fun h4 => ?_) (fun h4 => ?_)
 simp at h4
 have h4p := neF h4
 refine kK ?_
 refine kQ ?_
 refine kRS 3 [0,1,5] [(0,.v (.slice Aa a.length Ca)),(1,.v (.int .i64 (IntKind.i64.wrap (b + 2 + 1)))),(5,.v (.int .i64 (i : Int)))] ?_
 refine xl_eqS (t' := [(0,.v (.slice Aa a.length Ca)),(1,.v (.int .i64 (b + 3))),(5,.v (.int .i64 (i : Int)))]) (by rw [show (IntKind.i64.wrap (b + 2 + 1)) = (b + 3) from wrap_to (by omega) (by omega) (by omega)]) ?_
 refine kES [0,1,5] [(0,.v (.slice Aa a.length Ca)),(1,.v (.int .i64 (b + 3))),(5,.v (.int .i64 (i : Int)))] ?_
 refine kS ?_
 refine kQ ?_
 refine xl_indexS (kd := .i64) (T := 45) (e := 50) (K := 13) 2 [0,1,5,39,40] [(0,.v (.slice Aa a.length Ca)),(1,.v (.int .i64 (b + 3))),(5,.v (.int .i64 (i : Int))),(39,.v (.slice Aa a.length Ca)),(40,.v (.int .i64 (i : Int)))] i [.int .i64 b,.int .i64 (b + 1),.int .i64 (b + 2),.int .i64 (b + 3),.int .i64 (b + 4),.int .i64 (b + 5),.int .i64 (b + 6),.int .i64 (b + 7),.bool ((Int.tmod (b + 8) 3) == 0),.bool ((Int.tmod (b + 9) 3) == 0),.int .i64 (b + 10),.int .i64 (b + 11),.string (markText (b + 12))] (slF (.slice Aa a.length Ca) 13 (a.map segCells)) (by kernel_rfl) rfl (by kernel_rfl) rfl rfl (by kernel_rfl) (by kernel_rfl) (by kernel_rfl) (by kernel_rfl) hlt (by simp) (fun w h => h) (fun b h => h) (by simp only [List.getElem?_map,hx,hxe]; rfl) ?_
 refine kES [0,1,5,45] [(0,.v (.slice Aa a.length Ca)),(1,.v (.int .i64 (b + 3))),(5,.v (.int .i64 (i : Int))),(45,.v (.bool ((b + 3) != (b + 3))))] ?_
 refine kC ((b + 3) != (b + 3)) (fun h5 => ?_) (fun h5 => ?_)
 simp at h5
 have h5p := neF h5
 refine kK ?_
 refine kQ ?_
 refine kRS 3 [0,1,5] [(0,.v (.slice Aa a.length Ca)),(1,.v (.int .i64 (IntKind.i64.wrap (b + 3 + 1)))),(5,.v (.int .i64 (i : Int)))] ?_
 refine xl_eqS (t' := [(0,.v (.slice Aa a.length Ca)),(1,.v (.int .i64 (b + 4))),(5,.v (.int .i64 (i : Int)))]) (by rw [show (IntKind.i64.wrap (b + 3 + 1)) = (b + 4) from wrap_to (by omega) (by omega) (by omega)]) ?_
 refine kES [0,1,5] [(0,.v (.slice Aa a.length Ca)),(1,.v (.int .i64 (b + 4))),(5,.v (.int .i64 (i : Int)))] ?_
 refine kS ?_
 refine kQ ?_
 refine xl_indexS (kd := .i64) (T := 45) (e := 50) (K := 13) 2 [0,1,5,48,49] [(0,.v (.slice Aa a.length Ca)),(1,.v (.int .i64 (b + 4))),(5,.v (.int .i64 (i : Int))),(48,.v (.slice Aa a.length Ca)),(49,.v (.int .i64 (i : Int)))] i [.int .i64 b,.int .i64 (b + 1),.int .i64 (b + 2),.int .i64 (b + 3),.int .i64 (b + 4),.int .i64 (b + 5),.int .i64 (b + 6),.int .i64 (b + 7),.bool ((Int.tmod (b + 8) 3) == 0),.bool ((Int.tmod (b + 9) 3) == 0),.int .i64 (b + 10),.int .i64 (b + 11),.string (markText (b + 12))] (slF (.slice Aa a.length Ca) 13 (a.map segCells)) (by kernel_rfl) rfl (by kernel_rfl) rfl rfl (by kernel_rfl) (by kernel_rfl) (by kernel_rfl) (by kernel_rfl) hlt (by simp) (fun w h => h) (fun b h => h) (by simp only [List.getElem?_map,hx,hxe]; rfl) ?_
 refine kES [0,1,5,54] [(0,.v (.slice Aa a.length Ca)),(1,.v (.int .i64 (b + 4))),(5,.v (.int .i64 (i : Int))),(54,.v (.bool ((b + 4) != (b + 4))))] ?_
 refine kC ((b + 4) != (b + 4)) (fun h6 => ?_) (fun h6 => ?_)
 simp at h6
 have h6p := neF h6
 refine kK ?_
 refine kQ ?_
 refine kRS 3 [0,1,5] [(0,.v (.slice Aa a.length Ca)),(1,.v (.int .i64 (IntKind.i64.wrap (b + 4 + 1)))),(5,.v (.int .i64 (i : Int)))] ?_
 refine xl_eqS (t' := [(0,.v (.slice Aa a.length Ca)),(1,.v (.int .i64 (b + 5))),(5,.v (.int .i64 (i : Int)))]) (by rw [show (IntKind.i64.wrap (b + 4 + 1)) = (b + 5) from wrap_to (by omega) (by omega) (by omega)]) ?_
 refine kES [0,1,5] [(0,.v (.slice Aa a.length Ca)),(1,.v (.int .i64 (b + 5))),(5,.v (.int .i64 (i : Int)))] ?_
 refine kS ?_
 refine kQ ?_
 refine xl_indexS (kd := .i64) (T := 45) (e := 50) (K := 13) 2 [0,1,5,57,58] [(0,.v (.slice Aa a.length Ca)),(1,.v (.int .i64 (b + 5))),(5,.v (.int .i64 (i : Int))),(57,.v (.slice Aa a.length Ca)),(58,.v (.int .i64 (i : Int)))] i [.int .i64 b,.int .i64 (b + 1),.int .i64 (b + 2),.int .i64 (b + 3),.int .i64 (b + 4),.int .i64 (b + 5),.int .i64 (b + 6),.int .i64 (b + 7),.bool ((Int.tmod (b + 8) 3) == 0),.bool ((Int.tmod (b + 9) 3) == 0),.int .i64 (b + 10),.int .i64 (b + 11),.string (markText (b + 12))] (slF (.slice Aa a.length Ca) 13 (a.map segCells)) (by kernel_rfl) rfl (by kernel_rfl) rfl rfl (by kernel_rfl) (by kernel_rfl) (by kernel_rfl) (by kernel_rfl) hlt (by simp) (fun w h => h) (fun b h => h) (by simp only [List.getElem?_map,hx,hxe]; rfl) ?_
 refine kES [0,1,5,63] [(0,.v (.slice Aa a.length Ca)),(1,.v (.int .i64 (b + 5))),(5,.v (.int .i64 (i : Int))),(63,.v (.bool ((b + 5) != (b + 5))))] ?_
 refine kC ((b + 5) != (b + 5)) (fun h7 => ?_) (fun h7 => ?_)
 simp at h7
 have h7p := neF h7
 refine kK ?_
 refine kQ ?_
 refine kRS 3 [0,1,5] [(0,.v (.slice Aa a.length Ca)),(1,.v (.int .i64 (IntKind.i64.wrap (b + 5 + 1)))),(5,.v (.int .i64 (i : Int)))] ?_
 refine xl_eqS (t' := [(0,.v (.slice Aa a.length Ca)),(1,.v (.int .i64 (b + 6))),(5,.v (.int .i64 (i : Int)))]) (by rw [show (IntKind.i64.wrap (b + 5 + 1)) = (b + 6) from wrap_to (by omega) (by omega) (by omega)]) ?_
 refine kES [0,1,5] [(0,.v (.slice Aa a.length Ca)),(1,.v (.int .i64 (b + 6))),(5,.v (.int .i64 (i : Int)))] ?_
 refine kS ?_
 refine kQ ?_
 refine xl_indexS (kd := .i64) (T := 45) (e := 50) (K := 13) 2 [0,1,5,66,67] [(0,.v (.slice Aa a.length Ca)),(1,.v (.int .i64 (b + 6))),(5,.v (.int .i64 (i : Int))),(66,.v (.slice Aa a.length Ca)),(67,.v (.int .i64 (i : Int)))] i [.int .i64 b,.int .i64 (b + 1),.int .i64 (b + 2),.int .i64 (b + 3),.int .i64 (b + 4),.int .i64 (b + 5),.int .i64 (b + 6),.int .i64 (b + 7),.bool ((Int.tmod (b + 8) 3) == 0),.bool ((Int.tmod (b + 9) 3) == 0),.int .i64 (b + 10),.int .i64 (b + 11),.string (markText (b + 12))] (slF (.slice Aa a.length Ca) 13 (a.map segCells)) (by kernel_rfl) rfl (by kernel_rfl) rfl rfl (by kernel_rfl) (by kernel_rfl) (by kernel_rfl) (by kernel_rfl) hlt (by simp) (fun w h => h) (fun b h => h) (by simp only [List.getElem?_map,hx,hxe]; rfl) ?_
 refine kES [0,1,5,73] [(0,.v (.slice Aa a.length Ca)),(1,.v (.int .i64 (b + 6))),(5,.v (.int .i64 (i : Int))),(73,.v (.bool ((b + 6) != (b + 6))))] ?_
 refine kC ((b + 6) != (b + 6)) (fun h8 => ?_) (fun h8 => ?_)
 simp at h8
 have h8p := neF h8
 refine kK ?_
 refine kQ ?_
 refine kRS 3 [0,1,5] [(0,.v (.slice Aa a.length Ca)),(1,.v (.int .i64 (IntKind.i64.wrap (b + 6 + 1)))),(5,.v (.int .i64 (i : Int)))] ?_
 refine xl_eqS (t' := [(0,.v (.slice Aa a.length Ca)),(1,.v (.int .i64 (b + 7))),(5,.v (.int .i64 (i : Int)))]) (by rw [show (IntKind.i64.wrap (b + 6 + 1)) = (b + 7) from wrap_to (by omega) (by omega) (by omega)]) ?_
 refine kES [0,1,5] [(0,.v (.slice Aa a.length Ca)),(1,.v (.int .i64 (b + 7))),(5,.v (.int .i64 (i : Int)))] ?_
 refine kS ?_
 refine kQ ?_
 refine xl_indexS (kd := .i64) (T := 45) (e := 50) (K := 13) 2 [0,1,5,76,77] [(0,.v (.slice Aa a.length Ca)),(1,.v (.int .i64 (b + 7))),(5,.v (.int .i64 (i : Int))),(76,.v (.slice Aa a.length Ca)),(77,.v (.int .i64 (i : Int)))] i [.int .i64 b,.int .i64 (b + 1),.int .i64 (b + 2),.int .i64 (b + 3),.int .i64 (b + 4),.int .i64 (b + 5),.int .i64 (b + 6),.int .i64 (b + 7),.bool ((Int.tmod (b + 8) 3) == 0),.bool ((Int.tmod (b + 9) 3) == 0),.int .i64 (b + 10),.int .i64 (b + 11),.string (markText (b + 12))] (slF (.slice Aa a.length Ca) 13 (a.map segCells)) (by kernel_rfl) rfl (by kernel_rfl) rfl rfl (by kernel_rfl) (by kernel_rfl) (by kernel_rfl) (by kernel_rfl) hlt (by simp) (fun w h => h) (fun b h => h) (by simp only [List.getElem?_map,hx,hxe]; rfl) ?_
 refine kES [0,1,5,83] [(0,.v (.slice Aa a.length Ca)),(1,.v (.int .i64 (b + 7))),(5,.v (.int .i64 (i : Int))),(83,.v (.bool ((b + 7) != (b + 7))))] ?_
 refine kC ((b + 7) != (b + 7)) (fun h9 => ?_) (fun h9 => ?_)
 simp at h9
 have h9p := neF h9
 refine kK ?_
 refine kQ ?_
 refine kRS 3 [0,1,5] [(0,.v (.slice Aa a.length Ca)),(1,.v (.int .i64 (IntKind.i64.wrap (b + 7 + 1)))),(5,.v (.int .i64 (i : Int)))] ?_
 refine xl_eqS (t' := [(0,.v (.slice Aa a.length Ca)),(1,.v (.int .i64 (b + 8))),(5,.v (.int .i64 (i : Int)))]) (by rw [show (IntKind.i64.wrap (b + 7 + 1)) = (b + 8) from wrap_to (by omega) (by omega) (by omega)]) ?_
 refine kES [0,1,5] [(0,.v (.slice Aa a.length Ca)),(1,.v (.int .i64 (b + 8))),(5,.v (.int .i64 (i : Int)))] ?_
 refine kS ?_
 refine kQ ?_
 refine xl_indexS (kd := .i64) (T := 45) (e := 50) (K := 13) 2 [0,1,5,86,87] [(0,.v (.slice Aa a.length Ca)),(1,.v (.int .i64 (b + 8))),(5,.v (.int .i64 (i : Int))),(86,.v (.slice Aa a.length Ca)),(87,.v (.int .i64 (i : Int)))] i [.int .i64 b,.int .i64 (b + 1),.int .i64 (b + 2),.int .i64 (b + 3),.int .i64 (b + 4),.int .i64 (b + 5),.int .i64 (b + 6),.int .i64 (b + 7),.bool ((Int.tmod (b + 8) 3) == 0),.bool ((Int.tmod (b + 9) 3) == 0),.int .i64 (b + 10),.int .i64 (b + 11),.string (markText (b + 12))] (slF (.slice Aa a.length Ca) 13 (a.map segCells)) (by kernel_rfl) rfl (by kernel_rfl) rfl rfl (by kernel_rfl) (by kernel_rfl) (by kernel_rfl) (by kernel_rfl) hlt (by simp) (fun w h => h) (fun b h => h) (by simp only [List.getElem?_map,hx,hxe]; rfl) ?_
 refine kOS 4 [0,1,5,91,92] [(0,.v (.slice Aa a.length Ca)),(1,.v (.int .i64 (b + 8))),(5,.v (.int .i64 (i : Int))),(91,.v (.bool ((Int.tmod (b + 8) 3) == 0))),(92,.v (.int .i64 (b + 8)))] (.int .i64 (Int.tmod (b + 8) 3)) rfl (fun _ _ _ ww hr => act_bin hr.1 rfl (by kernel_rfl) (by kernel_rfl) (rem_run (by first | decide | omega) ww)) ?_
 refine kES [0,1,5,95] [(0,.v (.slice Aa a.length Ca)),(1,.v (.int .i64 (b + 8))),(5,.v (.int .i64 (i : Int))),(95,.v (.bool (!(((Int.tmod (b + 8) 3) == 0) == ((Int.tmod (b + 8) 3) == 0)))))] ?_
 refine kC (!(((Int.tmod (b + 8) 3) == 0) == ((Int.tmod (b + 8) 3) == 0))) (fun h10 => ?_) (fun h10 => ?_)
 have h10n := not_t h10
 simp at h10n
 have h10n := not_f h10
 have h10np := eqT h10n
 refine kK ?_
 refine kQ ?_
 refine kRS 3 [0,1,5] [(0,.v (.slice Aa a.length Ca)),(1,.v (.int .i64 (IntKind.i64.wrap (b + 8 + 1)))),(5,.v (.int .i64 (i : Int)))] ?_
 refine xl_eqS (t' := [(0,.v (.slice Aa a.length Ca)),(1,.v (.int .i64 (b + 9))),(5,.v (.int .i64 (i : Int)))]) (by rw [show (IntKind.i64.wrap (b + 8 + 1)) = (b + 9) from wrap_to (by omega) (by omega) (by omega)]) ?_
 refine kES [0,1,5] [(0,.v (.slice Aa a.length Ca)),(1,.v (.int .i64 (b + 9))),(5,.v (.int .i64 (i : Int)))] ?_
 refine kS ?_
 refine kQ ?_
 refine xl_indexS (kd := .i64) (T := 45) (e := 50) (K := 13) 2 [0,1,5,98,99] [(0,.v (.slice Aa a.length Ca)),(1,.v (.int .i64 (b + 9))),(5,.v (.int .i64 (i : Int))),(98,.v (.slice Aa a.length Ca)),(99,.v (.int .i64 (i : Int)))] i [.int .i64 b,.int .i64 (b + 1),.int .i64 (b + 2),.int .i64 (b + 3),.int .i64 (b + 4),.int .i64 (b + 5),.int .i64 (b + 6),.int .i64 (b + 7),.bool ((Int.tmod (b + 8) 3) == 0),.bool ((Int.tmod (b + 9) 3) == 0),.int .i64 (b + 10),.int .i64 (b + 11),.string (markText (b + 12))] (slF (.slice Aa a.length Ca) 13 (a.map segCells)) (by kernel_rfl) rfl (by kernel_rfl) rfl rfl (by kernel_rfl) (by kernel_rfl) (by kernel_rfl) (by kernel_rfl) hlt (by simp) (fun w h => h) (fun b h => h) (by simp only [List.getElem?_map,hx,hxe]; rfl) ?_
 refine kOS 4 [0,1,5,103,104] [(0,.v (.slice Aa a.length Ca)),(1,.v (.int .i64 (b + 9))),(5,.v (.int .i64 (i : Int))),(103,.v (.bool ((Int.tmod (b + 9) 3) == 0))),(104,.v (.int .i64 (b + 9)))] (.int .i64 (Int.tmod (b + 9) 3)) rfl (fun _ _ _ ww hr => act_bin hr.1 rfl (by kernel_rfl) (by kernel_rfl) (rem_run (by first | decide | omega) ww)) ?_
 refine kES [0,1,5,107] [(0,.v (.slice Aa a.length Ca)),(1,.v (.int .i64 (b + 9))),(5,.v (.int .i64 (i : Int))),(107,.v (.bool (!(((Int.tmod (b + 9) 3) == 0) == ((Int.tmod (b + 9) 3) == 0)))))] ?_
 refine kC (!(((Int.tmod (b + 9) 3) == 0) == ((Int.tmod (b + 9) 3) == 0))) (fun h11 => ?_) (fun h11 => ?_)
 have h11n := not_t h11
 simp at h11n
 have h11n := not_f h11
 have h11np := eqT h11n
 refine kK ?_
 refine kQ ?_
 refine kRS 3 [0,1,5] [(0,.v (.slice Aa a.length Ca)),(1,.v (.int .i64 (IntKind.i64.wrap (b + 9 + 1)))),(5,.v (.int .i64 (i : Int)))] ?_
 refine xl_eqS (t' := [(0,.v (.slice Aa a.length Ca)),(1,.v (.int .i64 (b + 10))),(5,.v (.int .i64 (i : Int)))]) (by rw [show (IntKind.i64.wrap (b + 9 + 1)) = (b + 10) from wrap_to (by omega) (by omega) (by omega)]) ?_
 refine kES [0,1,5] [(0,.v (.slice Aa a.length Ca)),(1,.v (.int .i64 (b + 10))),(5,.v (.int .i64 (i : Int)))] ?_
 refine kS ?_
 refine kQ ?_
 refine xl_indexS (kd := .i64) (T := 45) (e := 50) (K := 13) 2 [0,1,5,110,111] [(0,.v (.slice Aa a.length Ca)),(1,.v (.int .i64 (b + 10))),(5,.v (.int .i64 (i : Int))),(110,.v (.slice Aa a.length Ca)),(111,.v (.int .i64 (i : Int)))] i [.int .i64 b,.int .i64 (b + 1),.int .i64 (b + 2),.int .i64 (b + 3),.int .i64 (b + 4),.int .i64 (b + 5),.int .i64 (b + 6),.int .i64 (b + 7),.bool ((Int.tmod (b + 8) 3) == 0),.bool ((Int.tmod (b + 9) 3) == 0),.int .i64 (b + 10),.int .i64 (b + 11),.string (markText (b + 12))] (slF (.slice Aa a.length Ca) 13 (a.map segCells)) (by kernel_rfl) rfl (by kernel_rfl) rfl rfl (by kernel_rfl) (by kernel_rfl) (by kernel_rfl) (by kernel_rfl) hlt (by simp) (fun w h => h) (fun b h => h) (by simp only [List.getElem?_map,hx,hxe]; rfl) ?_
 refine kES [0,1,5,117] [(0,.v (.slice Aa a.length Ca)),(1,.v (.int .i64 (b + 10))),(5,.v (.int .i64 (i : Int))),(117,.v (.bool ((b + 10) != (b + 10))))] ?_
 refine kC ((b + 10) != (b + 10)) (fun h12 => ?_) (fun h12 => ?_)
 simp at h12
 have h12p := neF h12
 refine kK ?_
 refine kQ ?_
 refine kRS 3 [0,1,5] [(0,.v (.slice Aa a.length Ca)),(1,.v (.int .i64 (IntKind.i64.wrap (b + 10 + 1)))),(5,.v (.int .i64 (i : Int)))] ?_
 refine xl_eqS (t' := [(0,.v (.slice Aa a.length Ca)),(1,.v (.int .i64 (b + 11))),(5,.v (.int .i64 (i : Int)))]) (by rw [show (IntKind.i64.wrap (b + 10 + 1)) = (b + 11) from wrap_to (by omega) (by omega) (by omega)]) ?_
 refine kES [0,1,5] [(0,.v (.slice Aa a.length Ca)),(1,.v (.int .i64 (b + 11))),(5,.v (.int .i64 (i : Int)))] ?_
 refine kS ?_
 refine kQ ?_
 refine xl_indexS (kd := .i64) (T := 45) (e := 50) (K := 13) 2 [0,1,5,120,121] [(0,.v (.slice Aa a.length Ca)),(1,.v (.int .i64 (b + 11))),(5,.v (.int .i64 (i : Int))),(120,.v (.slice Aa a.length Ca)),(121,.v (.int .i64 (i : Int)))] i [.int .i64 b,.int .i64 (b + 1),.int .i64 (b + 2),.int .i64 (b + 3),.int .i64 (b + 4),.int .i64 (b + 5),.int .i64 (b + 6),.int .i64 (b + 7),.bool ((Int.tmod (b + 8) 3) == 0),.bool ((Int.tmod (b + 9) 3) == 0),.int .i64 (b + 10),.int .i64 (b + 11),.string (markText (b + 12))] (slF (.slice Aa a.length Ca) 13 (a.map segCells)) (by kernel_rfl) rfl (by kernel_rfl) rfl rfl (by kernel_rfl) (by kernel_rfl) (by kernel_rfl) (by kernel_rfl) hlt (by simp) (fun w h => h) (fun b h => h) (by simp only [List.getElem?_map,hx,hxe]; rfl) ?_
 refine kES [0,1,5,127] [(0,.v (.slice Aa a.length Ca)),(1,.v (.int .i64 (b + 11))),(5,.v (.int .i64 (i : Int))),(127,.v (.bool ((b + 11) != (b + 11))))] ?_
 refine kC ((b + 11) != (b + 11)) (fun h13 => ?_) (fun h13 => ?_)
 simp at h13
 have h13p := neF h13
 refine kK ?_
 refine kQ ?_
 refine kRS 3 [0,1,5] [(0,.v (.slice Aa a.length Ca)),(1,.v (.int .i64 (IntKind.i64.wrap (b + 11 + 1)))),(5,.v (.int .i64 (i : Int)))] ?_
 refine xl_eqS (t' := [(0,.v (.slice Aa a.length Ca)),(1,.v (.int .i64 (b + 12))),(5,.v (.int .i64 (i : Int)))]) (by rw [show (IntKind.i64.wrap (b + 11 + 1)) = (b + 12) from wrap_to (by omega) (by omega) (by omega)]) ?_
 refine kES [0,1,5] [(0,.v (.slice Aa a.length Ca)),(1,.v (.int .i64 (b + 12))),(5,.v (.int .i64 (i : Int)))] ?_
 refine kS ?_
 refine kS ?_
 refine xws_start ?_
 refine xws_row (K := 13) (j := i) [.int .i64 b,.int .i64 (b + 1),.int .i64 (b + 2),.int .i64 (b + 3),.int .i64 (b + 4),.int .i64 (b + 5),.int .i64 (b + 6),.int .i64 (b + 7),.bool ((Int.tmod (b + 8) 3) == 0),.bool ((Int.tmod (b + 9) 3) == 0),.int .i64 (b + 10),.int .i64 (b + 11),.string (markText (b + 12))] (slF (.slice Aa a.length Ca) 13 (a.map segCells)) (fun _ _ h => h) (by simp) (fun w h => h) (fun b h => h) (by simp only [List.getElem?_map,hx,hxe]; rfl) (fun bq14 offq14 hAq14 => ?_)
 refine xws_regionE [] (by kernel_rfl) (fun ρ σ hq15 => ?_)
 refine kTS [0,1,5] [135,131,130,0,1,5] 5 [(135,.v (.int .i64 (b + 12))),(131,.v (.int .i64 (i : Int))),(130,.v (.slice Aa a.length Ca)),(0,.v (.slice Aa a.length Ca)),(1,.v (.int .i64 (b + 12))),(5,.v (.int .i64 (i : Int)))] ?_
 refine xe_takeI (kd := .i64) (T := 45) (e := 50) (K := 13) (j := i) (A := Aa) (len := a.length) (cap := Ca) 2 12 _ rfl (by kernel_rfl) (by kernel_rfl) (by kernel_rfl) (fun _ _ h => h) (by kernel_rfl) rfl rfl (by kernel_rfl) (by kernel_rfl) (by kernel_rfl) (by kernel_rfl) hlt hAq14 hq15.2 (by kernel_rfl) rfl ?_
 refine kTS [3,4] [134,135,0,1,5] 2 [(134,.v (.string (markText (b + 12)))),(135,.v (.int .i64 (b + 12))),(0,.v (.slice Aa a.length Ca)),(1,.v (.int .i64 (b + 12))),(5,.v (.int .i64 (i : Int)))] ?_
 refine kA [6] ?_
 refine kSC 6 54 [.int .i64 (b + 12)] (some 136) rfl (xc_b fun ww hf => ymarkText_c (b + 12) ww  (by omega)) ?_
 intro _
 refine kTS [7] [137,0,1,5] 0 [(137,.v (.bool (!((markText (b + 12)).toList == (markText (b + 12)).toList)))),(0,.v (.slice Aa a.length Ca)),(1,.v (.int .i64 (b + 12))),(5,.v (.int .i64 (i : Int)))] ?_
 refine kZ ?_
 refine kC (!((markText (b + 12)).toList == (markText (b + 12)).toList)) (fun h16 => ?_) (fun h16 => ?_)
 have h16n := not_t h16
 simp at h16n
 have h16n := not_f h16
 have h16np := h16n; simp only [beq_iff_eq,bne_iff_ne,beq_eq_false_iff_ne,bne_eq_false_iff_eq,ne_eq,toList_lit0] at h16np
 refine kK ?_
 refine kG ?_
 refine kRS 3 [0,1,5] [(0,.v (.slice Aa a.length Ca)),(1,.v (.int .i64 (IntKind.i64.wrap (b + 12 + 1)))),(5,.v (.int .i64 (i : Int)))] ?_
 refine xl_eqS (t' := [(0,.v (.slice Aa a.length Ca)),(1,.v (.int .i64 (b + 13))),(5,.v (.int .i64 (i : Int)))]) (by rw [show (IntKind.i64.wrap (b + 12 + 1)) = (b + 13) from wrap_to (by omega) (by omega) (by omega)]) ?_
 refine kES [0,1,5] [(0,.v (.slice Aa a.length Ca)),(1,.v (.int .i64 (b + 13))),(5,.v (.int .i64 (i : Int)))] ?_
 refine kG ?_
 refine kRS 3 [0,1,5] [(0,.v (.slice Aa a.length Ca)),(1,.v (.int .i64 (b + 13))),(5,.v (.int .i64 (IntKind.i64.wrap ((i : Int) + 1))))] ?_
 refine xl_eqS (t' := [(0,.v (.slice Aa a.length Ca)),(1,.v (.int .i64 (b + 13))),(5,.v (.int .i64 ((i : Int) + 1)))]) (by rw [show (IntKind.i64.wrap ((i : Int) + 1)) = ((i : Int) + 1) from wrap_id (by omega) (by omega)]) ?_
 refine kES [0,1,5] [(0,.v (.slice Aa a.length Ca)),(1,.v (.int .i64 (b + 13))),(5,.v (.int .i64 ((i : Int) + 1)))] ?_
 have e : b + 13 = k + 13 * ((i + 1 : Nat) : Int) := by omega
 rw [e]
 exact ⟨⟨(i + 1),hlt⟩,kF 0 0 [0,1,5],by show (fun (i : Nat) => a.length - i) (i + 1) < a.length - i; (dsimp only; omega)⟩
 have h1p := of_decide_eq_false h1
 have hge : i = a.length := by simp at h1; omega
 refine xw_exit ?_
 refine kQ ?_
 refine kES [4] [(4,.v (.int .i64 (k + 13 * (i : Int))))] ?_
 refine kR ?_
 have hmod : k + 13 * (a.length : Int) = (k + 13 * (i : Int)) := by first | rfl | (rw [hge])
 exact ⟨[.int .i64 (k + 13 * (i : Int))],by kernel_rfl,fun w' hb hf => by rw [hmod]; exact ⟨rfl,hb⟩⟩
theorem yheldSegmentS_m (n : Nat) (v : Value) (k : Int) (w : World) (hs : Sl w v 13 ((marks mkS 13 k n).map segCells)) (hk0 : 0 ≤ k) (hk : k ≤ 4503599627370496) (hl : n ≤ 1048576) : Calls Tryz.prog 17 #[v, .int .i64 k] w fun e w' => e = .returned (.int .i64 (k + 13 * (n : Int))) ∧ Below w.heap.size w w' := by
 have := yheldSegmentS_c (marks mkS 13 k n) v k w hs (by rw [marks_len]) hk0 hk (by rw [marks_len]; exact hl)
 rw [marks_len] at this; exact this
theorem yheldReceiver_m (n : Nat) (x_next : Int) (x_data : ByteArray) (x_fin : Int) (x_done : Bool) (v : Value) (k : Int) (w : World) (hs : Sl w v 2 ((marks mkP 2 k n).map pceCells)) (hk0 : 0 ≤ k) (hk : k ≤ 4503599627370496) (hl : n ≤ 1048576) : Calls Tryz.prog 55 #[.agg #[.int .i64 x_next, .string x_data, v, .int .i64 x_fin, .bool x_done], .int .i64 k] w fun e w' => e = .returned (.int .i64 (k + 2 * (n : Int))) ∧ Below w.heap.size w w' := by
 obtain ⟨A,cap,hv⟩ := hs.form
 rw [List.length_map,marks_len] at hv; subst hv
 refine x_calls (args := [.agg #[.int .i64 x_next,.string x_data,.slice A n cap,.int .i64 x_fin,.bool x_done],.int .i64 k]) (fn := Tryz.f55) [slF (.slice A n cap) 2 ((marks mkP 2 k n).map pceCells)] Tryz.func55 rfl Tryz.ntmps55 rfl (by simp only [List.mem_cons,List.not_mem_nil,or_false,forall_eq_or_imp,forall_eq]; exact ⟨rfl,hs⟩) ?_
 refine kQ ?_
 refine kEF [1,2] ⟨[(1,.v (.int .i64 k)),(2,.p 0 0)],[⟨41,[.int .i64 x_next,.string x_data,.slice A n cap,.int .i64 x_fin,.bool x_done]⟩],[],[slF (.slice A n cap) 2 ((marks mkP 2 k n).map pceCells)]⟩ ?_
 refine kQ ?_
 refine kCS 3 [1,6,7] [(1,.v (.int .i64 k)),(6,.v (.slice A n cap)),(7,.v (.int .i64 k))] 106 [.slice A n cap,.int .i64 k] (some 8) rfl (xc_b fun ww hf => yheldPieceS_m n  (.slice A n cap) k ww (hf _ m0) (by omega) (by omega) (by omega)) ?_
 intro _
 refine kES [1] [(1,.v (.int .i64 (k + 2 * (n : Int))))] ?_
 refine kS ?_
 refine kQ ?_
 refine kES [1,10] [(1,.v (.int .i64 (k + 2 * (n : Int)))),(10,.v (.bool (decide ((k + 2 * (n : Int)) < 0))))] ?_
 refine kC (decide ((k + 2 * (n : Int)) < 0)) (fun h1 => ?_) (fun h1 => ?_)
 have h1p := of_decide_eq_true h1
 exfalso; have := of_decide_eq_true h1; omega
 have h1p := of_decide_eq_false h1
 refine kK ?_
 refine kQ ?_
 refine kES [4] [(4,.v (.int .i64 (k + 2 * (n : Int))))] ?_
 refine kR ?_
 exact ⟨[.int .i64 (k + 2 * (n : Int))],by kernel_rfl,fun w' hb hf => ⟨rfl,hb⟩⟩
theorem yheldConn_m (n : Nat) (x_t_ip : Int) (x_t_port : Int) (x_t_my : Int) (x_state : Int) (x_s_una : Int) (x_s_data : ByteArray) (x_s_sent : Int) (x_s_fin : Bool) (x_s_finSent : Bool) (x_s_done : Bool) (x_r_next : Int) (x_r_data : ByteArray) (x_r_fin : Int) (x_r_done : Bool) (x_window : Int) (x_most : Int) (x_o_mss : Int) (x_o_scale : Int) (x_o_sack : Bool) (x_o_stamp : Bool) (x_o_val : Int) (x_o_echo : Int) (x_timer : Int) (x_tries : Int) (v : Value) (k : Int) (w : World) (hs : Sl w v 2 ((marks mkP 2 k n).map pceCells)) (hk0 : 0 ≤ k) (hk : k ≤ 4503599627370496) (hl : n ≤ 1048576) : Calls Tryz.prog 16 #[.agg #[.int .i64 x_t_ip, .int .i64 x_t_port, .int .i64 x_t_my, .int .i64 x_state, .int .i64 x_s_una, .string x_s_data, .int .i64 x_s_sent, .bool x_s_fin, .bool x_s_finSent, .bool x_s_done, .int .i64 x_r_next, .string x_r_data, v, .int .i64 x_r_fin, .bool x_r_done, .int .i64 x_window, .int .i64 x_most, .int .i64 x_o_mss, .int .i64 x_o_scale, .bool x_o_sack, .bool x_o_stamp, .int .i64 x_o_val, .int .i64 x_o_echo, .int .i64 x_timer, .int .i64 x_tries], .int .i64 k] w fun e w' => e = .returned (.int .i64 (k + 2 * (n : Int))) ∧ Below w.heap.size w w' := by
 obtain ⟨A,cap,hv⟩ := hs.form
 rw [List.length_map,marks_len] at hv; subst hv
 refine x_calls (args := [.agg #[.int .i64 x_t_ip,.int .i64 x_t_port,.int .i64 x_t_my,.int .i64 x_state,.int .i64 x_s_una,.string x_s_data,.int .i64 x_s_sent,.bool x_s_fin,.bool x_s_finSent,.bool x_s_done,.int .i64 x_r_next,.string x_r_data,.slice A n cap,.int .i64 x_r_fin,.bool x_r_done,.int .i64 x_window,.int .i64 x_most,.int .i64 x_o_mss,.int .i64 x_o_scale,.bool x_o_sack,.bool x_o_stamp,.int .i64 x_o_val,.int .i64 x_o_echo,.int .i64 x_timer,.int .i64 x_tries],.int .i64 k]) (fn := Tryz.f16) [slF (.slice A n cap) 2 ((marks mkP 2 k n).map pceCells)] Tryz.func16 rfl Tryz.ntmps16 rfl (by simp only [List.mem_cons,List.not_mem_nil,or_false,forall_eq_or_imp,forall_eq]; exact ⟨rfl,hs⟩) ?_
 refine kQ ?_
 refine kEF [1,2] ⟨[(1,.v (.int .i64 k)),(2,.p 0 0)],[⟨44,[.int .i64 x_t_ip,.int .i64 x_t_port,.int .i64 x_t_my,.int .i64 x_state,.int .i64 x_s_una,.string x_s_data,.int .i64 x_s_sent,.bool x_s_fin,.bool x_s_finSent,.bool x_s_done,.int .i64 x_r_next,.string x_r_data,.slice A n cap,.int .i64 x_r_fin,.bool x_r_done,.int .i64 x_window,.int .i64 x_most,.int .i64 x_o_mss,.int .i64 x_o_scale,.bool x_o_sack,.bool x_o_stamp,.int .i64 x_o_val,.int .i64 x_o_echo,.int .i64 x_timer,.int .i64 x_tries]⟩],[],[slF (.slice A n cap) 2 ((marks mkP 2 k n).map pceCells)]⟩ ?_
 refine kQ ?_
 refine kCS 3 [1,6,7] [(1,.v (.int .i64 k)),(6,.v (.agg #[.int .i64 x_r_next,.string x_r_data,.slice A n cap,.int .i64 x_r_fin,.bool x_r_done])),(7,.v (.int .i64 k))] 55 [.agg #[.int .i64 x_r_next,.string x_r_data,.slice A n cap,.int .i64 x_r_fin,.bool x_r_done],.int .i64 k] (some 8) rfl (xc_b fun ww hf => yheldReceiver_m n x_r_next x_r_data x_r_fin x_r_done (.slice A n cap) k ww (hf _ m0) (by omega) (by omega) (by omega)) ?_
 intro _
 refine kES [1] [(1,.v (.int .i64 (k + 2 * (n : Int))))] ?_
 refine kS ?_
 refine kQ ?_
 refine kES [1,10] [(1,.v (.int .i64 (k + 2 * (n : Int)))),(10,.v (.bool (decide ((k + 2 * (n : Int)) < 0))))] ?_
 refine kC (decide ((k + 2 * (n : Int)) < 0)) (fun h1 => ?_) (fun h1 => ?_)
 have h1p := of_decide_eq_true h1
 exfalso; have := of_decide_eq_true h1; omega
 have h1p := of_decide_eq_false h1
 refine kK ?_
 refine kQ ?_
 refine kES [4] [(4,.v (.int .i64 (k + 2 * (n : Int))))] ?_
 refine kR ?_
 exact ⟨[.int .i64 (k + 2 * (n : Int))],by kernel_rfl,fun w' hb hf => ⟨rfl,hb⟩⟩
theorem yeqSegmentS_c (a : List Seg) (aV : Value) (bV : Value) (w : World) (hl_aV : Sl w aV 13 (a.map segCells)) (hl_bV : Sl w bV 13 (a.map segCells))  : Calls Tryz.prog 13 #[aV, bV] w fun e w' => e = .returned (.bool true) ∧ Below w.heap.size w w' := by
 obtain ⟨Aa,Ca,hva⟩ := hl_aV.form
 rw [List.length_map] at hva; subst hva
 have hna := hl_aV.len; rw [List.length_map] at hna
 have hqa := Sl.capLe hl_aV
 obtain ⟨Ab,Cb,hvb⟩ := hl_bV.form
 rw [List.length_map] at hvb; subst hvb
 have hnb := hl_bV.len; rw [List.length_map] at hnb
 have hqb := Sl.capLe hl_bV
 refine x_calls (args := [.slice Aa a.length Ca,.slice Ab a.length Cb]) (fn := Tryz.f13) [slF (.slice Aa a.length Ca) 13 (a.map segCells),slF (.slice Ab a.length Cb) 13 (a.map segCells)] Tryz.func13 rfl Tryz.ntmps13 rfl (by simp only [List.mem_cons,List.not_mem_nil,or_false,forall_eq_or_imp,forall_eq]; exact ⟨⟨rfl,hl_aV⟩,⟨rfl,hl_bV⟩⟩) ?_
 refine kQ ?_
 refine kEF [0,1] ⟨[(0,.v (.slice Aa a.length Ca)),(1,.v (.slice Ab a.length Cb))],[],[],[slF (.slice Aa a.length Ca) 13 (a.map segCells),slF (.slice Ab a.length Cb) 13 (a.map segCells)]⟩ ?_
 refine kS ?_
 refine kQ ?_
 refine kES [0,1,10] [(0,.v (.slice Aa a.length Ca)),(1,.v (.slice Ab a.length Cb)),(10,.v (.bool (((a.length : Nat) : Int) != ((a.length : Nat) : Int))))] ?_
 refine kC (((a.length : Nat) : Int) != ((a.length : Nat) : Int)) (fun h1 => ?_) (fun h1 => ?_)
 simp at h1
 have h1p := neF h1
 refine kK ?_
 refine kS ?_
 refine kQ ?_
 refine kES [0,1,5] [(0,.v (.slice Aa a.length Ca)),(1,.v (.slice Ab a.length Cb)),(5,.v (.int .i64 0))] ?_
 refine xw_block ?_
 refine xw_loopW (α := {x : Nat // (fun (i : Nat) => i ≤ a.length) x}) (fun x => (fun (i : Nat) => (⟨[(0,.v (.slice Aa a.length Ca)),(1,.v (.slice Ab a.length Cb)),(5,.v (.int .i64 (i : Int)))],[],[],[slF (.slice Aa a.length Ca) 13 (a.map segCells),slF (.slice Ab a.length Cb) 13 (a.map segCells)]⟩ : St)) x.1) (fun x => (fun (i : Nat) => a.length - i) x.1) ⟨(0),Nat.zero_le _⟩ (kF 0 0 [0,1,5]) ?_
 rintro ⟨i,hi⟩
 try dsimp only
 try dsimp only at hi
 refine kS ?_
 refine kQ ?_
 refine kES [0,1,5,14] [(0,.v (.slice Aa a.length Ca)),(1,.v (.slice Ab a.length Cb)),(5,.v (.int .i64 (i : Int))),(14,.v (.bool (decide ((i : Int) < ((a.length : Nat) : Int)))))] ?_
 refine kC (decide ((i : Int) < ((a.length : Nat) : Int))) (fun h2 => ?_) (fun h2 => ?_)
 have h2p := of_decide_eq_true h2
 have hlt : i < a.length := by simpa using h2
 obtain ⟨x,hx⟩ : ∃ x,a[i]? = some x := ⟨_,List.getElem?_eq_getElem hlt⟩
 refine kK ?_
 refine kS ?_
 refine xw_block ?_
 refine kS ?_
 refine xws_start ?_
 refine xws_row (K := 13) (j := i) [.int .i64 x.src,.int .i64 x.dst,.int .i64 x.seq,.int .i64 x.ack,.int .i64 x.flags,.int .i64 x.window,.int .i64 x.o.mss,.int .i64 x.o.scale,.bool x.o.sack,.bool x.o.stamp,.int .i64 x.o.val,.int .i64 x.o.echo,.string x.body] (slF (.slice Aa a.length Ca) 13 (a.map segCells)) (fun _ _ h => h) (by simp) (fun w h => h) (fun b h => h) (by simp only [List.getElem?_map,hx]; rfl) (fun bq3 offq3 hAq3 => ?_)
 refine xws_row (K := 13) (j := i) [.int .i64 x.src,.int .i64 x.dst,.int .i64 x.seq,.int .i64 x.ack,.int .i64 x.flags,.int .i64 x.window,.int .i64 x.o.mss,.int .i64 x.o.scale,.bool x.o.sack,.bool x.o.stamp,.int .i64 x.o.val,.int .i64 x.o.echo,.string x.body] (slF (.slice Ab a.length Cb) 13 (a.map segCells)) (fun _ _ h => h) (by simp) (fun w h => h) (fun b h => h) (by simp only [List.getElem?_map,hx]; rfl) (fun bq4 offq4 hAq4 => ?_)
 refine xws_regionE [] (by kernel_rfl) (fun ρ σ hq5 => ?_)
 refine kTS [0,1,4,5] [22,21,18,17,0,1,5] 6 [(22,.v (.int .i64 (i : Int))),(21,.v (.slice Ab a.length Cb)),(18,.v (.int .i64 (i : Int))),(17,.v (.slice Aa a.length Ca)),(0,.v (.slice Aa a.length Ca)),(1,.v (.slice Ab a.length Cb)),(5,.v (.int .i64 (i : Int)))] ?_
 refine xe_takeI (kd := .i64) (T := 45) (e := 50) (K := 13) (j := i) (A := Aa) (len := a.length) (cap := Ca) 2 0 _ rfl (by kernel_rfl) (by kernel_rfl) (by kernel_rfl) (fun _ _ h => h) (by kernel_rfl) rfl rfl (by kernel_rfl) (by kernel_rfl) (by kernel_rfl) (by kernel_rfl) hlt hAq3 hq5.1.2 (by kernel_rfl) rfl ?_
 refine kTS [3] [20,22,21,0,1,5] 4 [(20,.v (.agg (segL x).toArray)),(22,.v (.int .i64 (i : Int))),(21,.v (.slice Ab a.length Cb)),(0,.v (.slice Aa a.length Ca)),(1,.v (.slice Ab a.length Cb)),(5,.v (.int .i64 (i : Int)))] ?_
 refine xe_takeI (kd := .i64) (T := 45) (e := 50) (K := 13) (j := i) (A := Ab) (len := a.length) (cap := Cb) 6 1 _ rfl (by kernel_rfl) (by kernel_rfl) (by kernel_rfl) (fun _ _ h => h) (by kernel_rfl) rfl rfl (by kernel_rfl) (by kernel_rfl) (by kernel_rfl) (by kernel_rfl) hlt hAq4 hq5.2 (by kernel_rfl) rfl ?_
 refine kTS [7] [24,20,0,1,5] 2 [(24,.v (.agg (segL x).toArray)),(20,.v (.agg (segL x).toArray)),(0,.v (.slice Aa a.length Ca)),(1,.v (.slice Ab a.length Cb)),(5,.v (.int .i64 (i : Int)))] ?_
 refine kA [8] ?_
 refine kSC 8 52 [.agg (segL x).toArray,.agg (segL x).toArray] (some 25) rfl (xc_b fun ww hf => eqSegment_c x.src x.dst x.seq x.ack x.flags x.window x.o.mss x.o.scale x.o.sack x.o.stamp x.o.val x.o.echo x.body ww) ?_
 intro _
 refine kTS [9] [26,0,1,5] 0 [(26,.v (.bool false)),(0,.v (.slice Aa a.length Ca)),(1,.v (.slice Ab a.length Cb)),(5,.v (.int .i64 (i : Int)))] ?_
 refine kZ ?_
 refine kN ?_
 refine kK ?_
 refine kG ?_
 refine kRS 3 [0,1,5] [(0,.v (.slice Aa a.length Ca)),(1,.v (.slice Ab a.length Cb)),(5,.v (.int .i64 (IntKind.i64.wrap ((i : Int) + 1))))] ?_
 refine xl_eqS (t' := [(0,.v (.slice Aa a.length Ca)),(1,.v (.slice Ab a.length Cb)),(5,.v (.int .i64 ((i : Int) + 1)))]) (by rw [show (IntKind.i64.wrap ((i : Int) + 1)) = ((i : Int) + 1) from wrap_id (by omega) (by omega)]) ?_
 refine kES [0,1,5] [(0,.v (.slice Aa a.length Ca)),(1,.v (.slice Ab a.length Cb)),(5,.v (.int .i64 ((i : Int) + 1)))] ?_
 exact ⟨⟨(i + 1),hlt⟩,kF 0 0 [0,1,5],by show (fun (i : Nat) => a.length - i) (i + 1) < a.length - i; (dsimp only; omega)⟩
 have h2p := of_decide_eq_false h2
 have hge : i = a.length := by simp at h2; omega
 refine xw_exit ?_
 refine kQ ?_
 refine kES [4] [(4,.v (.bool true))] ?_
 refine kR ?_
 exact ⟨[.bool true],by kernel_rfl,fun w' hb hf => by exact ⟨rfl,hb⟩⟩
theorem ysNextChunk_c (s : Snd) (window : Int) (mss : Int) (w : World) (hwi : -9223372036854775808 ≤ window ∧ window ≤ 9223372036854775807) : Calls Tryz.prog 89 #[.agg (sndL s).toArray, .int .i64 window, .int .i64 mss] w fun e w' => e = .returned (.tuple #[.agg (chkL (nextChunk s window mss).1).toArray, .bool ((nextChunk s window mss).2)]) ∧ Below w.heap.size w w' := by
 refine x_calls (args := [.agg (sndL s).toArray,.int .i64 window,.int .i64 mss]) (fn := Tryz.f89) [] Tryz.func89 rfl Tryz.ntmps89 rfl (by simp) ?_
 refine kQ ?_
 refine kEF [1,2,3,6] ⟨[(1,.v (.int .i64 window)),(2,.v (.int .i64 mss)),(3,.p 0 0),(6,.p 1 0)],[⟨38,sndL s⟩,⟨107,chkL (⟨0,(⟨#[]⟩ : ByteArray),false⟩ : Chk)⟩],[],[]⟩ ?_
 refine kS ?_
 refine kQ ?_
 refine kCD 1 [1,2,3,6,11] [(11,.v (.agg (sndL s).toArray))] 64 [.agg (sndL s).toArray] (some 12) rfl (xc_b fun ww hf => sSenderOk_c s.una s.data s.sent s.fin s.finSent s.done ww ) ?_
 intro _
 refine kED [1,2,3,6,13] [(13,.v (.bool (!(senderOk s))))] ?_
 refine kC (!(senderOk s)) (fun h1 => ?_) (fun h1 => ?_)
 have hsn := not_t h1
 refine kQ ?_
 refine kOS 0 [6] [(6,.p 1 0)] (.agg (chkL (⟨0,(⟨#[]⟩ : ByteArray),false⟩ : Chk)).toArray) rfl (fun _ _ _ ww hr => act_build [] hr.1 rfl (by kernel_rfl) (by kernel_rfl) ww) ?_
 refine kED [6,7] [(7,.v (.bool false))] ?_
 refine kR ?_
 have hmod : nextChunk s window mss = ((⟨0,(⟨#[]⟩ : ByteArray),false⟩),false) := by first | rfl | (simp [nextChunk,zeroChk,chunkFin, *]; done) | (simp [nextChunk,zeroChk,chunkFin, *]; omega) | grind [nextChunk,zeroChk,chunkFin]
 exact ⟨[.agg (chkL (⟨0,(⟨#[]⟩ : ByteArray),false⟩ : Chk)).toArray,.bool false],by kernel_rfl,fun w' hb hf => by rw [hmod]; exact ⟨rfl,hb⟩⟩
 have h1b := senderOk_bd (s := s) (by simpa using h1)
 obtain ⟨h1b0,h1b1,h1b2,h1b3,h1b4,h1b5,h1b6,h1b7,h1b8,h1b9,h1b10⟩ := h1b
 have hsn := not_f h1
 obtain ⟨c0,c1,c2,c3,c4⟩ := chunkN_bd (window := window) (mss := mss) hsn
 refine kK ?_
 refine kS ?_
 refine xe_region [] (by kernel_rfl) (fun ρ σ => ?_)
 refine kTS [0,3] [18,15,2,3,6] 6 [(18,.v (.agg (sndL s).toArray)),(15,.v (.int .i64 window)),(2,.v (.int .i64 mss)),(3,.p 0 0),(6,.p 1 0)] ?_
 refine kA [1] ?_
 refine kSC 1 75 [.int .i64 window,.int .i64 1000000] (some 16) rfl (xc_s fun ww hf => l1Min_c window 1000000 ww ) ?_
 intro _
 refine kA [2] ?_
 refine kSC 2 76 [.int .i64 0,.int .i64 (min window 1000000)] (some 17) rfl (xc_s fun ww hf => l1Max_c 0 (min window 1000000) ww ) ?_
 intro _
 refine kA [4] ?_
 refine kSC 4 77 [.agg (sndL s).toArray] (some 19) rfl (xc_b fun ww hf => sFlown_c s.una s.data s.sent s.fin s.finSent s.done ww ) ?_
 intro _
 refine kTS [5] [20,2,3,6] 2 [(20,.v (.int .i64 (IntKind.i64.wrap ((max 0 (min window 1000000)) - (flown s))))),(2,.v (.int .i64 mss)),(3,.p 0 0),(6,.p 1 0)] ?_
 refine xe_eqS (t := [(20,.v (.int .i64 (IntKind.i64.wrap ((max 0 (min window 1000000)) - (flown s))))),(2,.v (.int .i64 mss)),(3,.p 0 0),(6,.p 1 0)]) (t' := [(20,.v (.int .i64 ((max 0 (min window 1000000)) - (flown s)))),(2,.v (.int .i64 mss)),(3,.p 0 0),(6,.p 1 0)]) (by rw [show (IntKind.i64.wrap ((max 0 (min window 1000000)) - (flown s))) = ((max 0 (min window 1000000)) - (flown s)) from wrap_id (by omega) (by omega)]) ?_
 refine kA [6] ?_
 refine kSC 6 76 [.int .i64 0,.int .i64 ((max 0 (min window 1000000)) - (flown s))] (some 21) rfl (xc_s fun ww hf => l1Max_c 0 ((max 0 (min window 1000000)) - (flown s)) ww ) ?_
 intro _
 refine xe_eqS (t := [(21,.v (.int .i64 (max 0 ((max 0 (min window 1000000)) - (flown s))))),(20,.v (.int .i64 ((max 0 (min window 1000000)) - (flown s)))),(2,.v (.int .i64 mss)),(3,.p 0 0),(6,.p 1 0)]) (t' := [(21,.v (.int .i64 (wnd s window))),(20,.v (.int .i64 ((max 0 (min window 1000000)) - (flown s)))),(2,.v (.int .i64 mss)),(3,.p 0 0),(6,.p 1 0)]) (by rw [show (max 0 ((max 0 (min window 1000000)) - (flown s))) = (wnd s window) from wnd_s]) ?_
 refine kTS [7] [8,2,3,6] 0 [(8,.v (.int .i64 (wnd s window))),(2,.v (.int .i64 mss)),(3,.p 0 0),(6,.p 1 0)] ?_
 refine kZ ?_
 refine kS ?_
 refine xe_region [] (by kernel_rfl) (fun ρ σ => ?_)
 refine kTS [0,1,3,4,5,6,7,8] [30,23,22,8,3,6] 4 [(30,.v (.int .i64 (IntKind.i64.wrap ((s.data.size : Int) - s.sent)))),(23,.v (.int .i64 (wnd s window))),(22,.v (.int .i64 mss)),(8,.v (.int .i64 (wnd s window))),(3,.p 0 0),(6,.p 1 0)] ?_
 refine xe_eqS (t := [(30,.v (.int .i64 (IntKind.i64.wrap ((s.data.size : Int) - s.sent)))),(23,.v (.int .i64 (wnd s window))),(22,.v (.int .i64 mss)),(8,.v (.int .i64 (wnd s window))),(3,.p 0 0),(6,.p 1 0)]) (t' := [(30,.v (.int .i64 ((s.data.size : Int) - s.sent))),(23,.v (.int .i64 (wnd s window))),(22,.v (.int .i64 mss)),(8,.v (.int .i64 (wnd s window))),(3,.p 0 0),(6,.p 1 0)]) (by rw [show (IntKind.i64.wrap ((s.data.size : Int) - s.sent)) = ((s.data.size : Int) - s.sent) from wrap_id (by omega) (by omega)]) ?_
 refine kA [2] ?_
 refine kSC 2 75 [.int .i64 mss,.int .i64 (wnd s window)] (some 24) rfl (xc_s fun ww hf => l1Min_c mss (wnd s window) ww ) ?_
 intro _
 refine kA [9] ?_
 refine kSC 9 75 [.int .i64 (min mss (wnd s window)),.int .i64 ((s.data.size : Int) - s.sent)] (some 31) rfl (xc_s fun ww hf => l1Min_c (min mss (wnd s window)) ((s.data.size : Int) - s.sent) ww ) ?_
 intro _
 refine kA [10] ?_
 refine kSC 10 76 [.int .i64 0,.int .i64 (min (min mss (wnd s window)) ((s.data.size : Int) - s.sent))] (some 32) rfl (xc_s fun ww hf => l1Max_c 0 (min (min mss (wnd s window)) ((s.data.size : Int) - s.sent)) ww ) ?_
 intro _
 refine xe_eqS (t := [(32,.v (.int .i64 (max 0 (min (min mss (wnd s window)) ((s.data.size : Int) - s.sent))))),(31,.v (.int .i64 (min (min mss (wnd s window)) ((s.data.size : Int) - s.sent)))),(24,.v (.int .i64 (min mss (wnd s window)))),(30,.v (.int .i64 ((s.data.size : Int) - s.sent))),(23,.v (.int .i64 (wnd s window))),(22,.v (.int .i64 mss)),(8,.v (.int .i64 (wnd s window))),(3,.p 0 0),(6,.p 1 0)]) (t' := [(32,.v (.int .i64 (chunkN s window mss))),(31,.v (.int .i64 (min (min mss (wnd s window)) ((s.data.size : Int) - s.sent)))),(24,.v (.int .i64 (min mss (wnd s window)))),(30,.v (.int .i64 ((s.data.size : Int) - s.sent))),(23,.v (.int .i64 (wnd s window))),(22,.v (.int .i64 mss)),(8,.v (.int .i64 (wnd s window))),(3,.p 0 0),(6,.p 1 0)]) (by rw [show (max 0 (min (min mss (wnd s window)) ((s.data.size : Int) - s.sent))) = (chunkN s window mss) from rfl]) ?_
 refine kTS [11] [9,8,3,6] 0 [(9,.v (.int .i64 (chunkN s window mss))),(8,.v (.int .i64 (wnd s window))),(3,.p 0 0),(6,.p 1 0)] ?_
 refine kZ ?_
 refine kS ?_
 refine xw_join ⟨[(3,.p 0 0),(6,.p 1 0),(8,.v (.int .i64 (wnd s window))),(9,.v (.int .i64 (chunkN s window mss))),(10,.p 2 0)],[⟨38,sndL s⟩,⟨107,chkL (⟨0,(⟨#[]⟩ : ByteArray),false⟩ : Chk)⟩,⟨107,chkL (⟨nextOf s,s.data.extract (s.sent).toNat (s.sent + (chunkN s window mss)).toNat,false⟩ : Chk)⟩],[],[]⟩ ?_ ?_
 refine xe_region [] (by kernel_rfl) (fun ρ σ => ?_)
 refine kTS [0,2,3,4,5,6,7,8,9] [42,38,36,33,9,8,3,6] 5 [(42,.v (.int .i64 (IntKind.i64.wrap (s.sent + (chunkN s window mss))))),(38,.v (.int .i64 s.sent)),(36,.v (.string s.data)),(33,.v (.agg (sndL s).toArray)),(9,.v (.int .i64 (chunkN s window mss))),(8,.v (.int .i64 (wnd s window))),(3,.p 0 0),(6,.p 1 0)] ?_
 refine xe_eqS (t := [(42,.v (.int .i64 (IntKind.i64.wrap (s.sent + (chunkN s window mss))))),(38,.v (.int .i64 s.sent)),(36,.v (.string s.data)),(33,.v (.agg (sndL s).toArray)),(9,.v (.int .i64 (chunkN s window mss))),(8,.v (.int .i64 (wnd s window))),(3,.p 0 0),(6,.p 1 0)]) (t' := [(42,.v (.int .i64 (s.sent + (chunkN s window mss)))),(38,.v (.int .i64 s.sent)),(36,.v (.string s.data)),(33,.v (.agg (sndL s).toArray)),(9,.v (.int .i64 (chunkN s window mss))),(8,.v (.int .i64 (wnd s window))),(3,.p 0 0),(6,.p 1 0)]) (by rw [show (IntKind.i64.wrap (s.sent + (chunkN s window mss))) = (s.sent + (chunkN s window mss)) from wrap_id (by omega) (by omega)]) ?_
 refine kX 10 (.string (s.data.extract (s.sent).toNat (s.sent + (chunkN s window mss)).toNat)) rfl (fun _ _ ww hA => act_slS (s.sent) (s.sent + (chunkN s window mss)) hA rfl (by kernel_rfl) rfl rfl rfl (by omega) (by omega) (by omega) ww) ?_
 refine kA [1,12] ⟨?_,?_⟩
 refine kSC 1 87 [.agg (sndL s).toArray] (some 34) rfl (xc_b fun ww hf => sNextOf_c s.una s.data s.sent s.fin s.finSent s.done ww ) ?_
 intro _
 refine kX 11 (.agg (chkL (⟨nextOf s,s.data.extract (s.sent).toNat (s.sent + (chunkN s window mss)).toNat,false⟩ : Chk)).toArray) rfl (fun _ _ ww hA => act_build [(0,.int .i64 (nextOf s)),(1,.string (s.data.extract (s.sent).toNat (s.sent + (chunkN s window mss)).toNat))] hA rfl (by kernel_rfl) (by kernel_rfl) ww) ?_
 refine kA [12] ?_
 refine xs_box 12 ⟨107,chkL (⟨0,(⟨#[]⟩ : ByteArray),false⟩ : Chk)⟩ _ rfl (by kernel_rfl) (by kernel_rfl) (by kernel_rfl) (by kernel_rfl) rfl ?_
 refine kA [13] ?_
 refine kSS 13 2 0 (chkL (⟨nextOf s,s.data.extract (s.sent).toNat (s.sent + (chunkN s window mss)).toNat,false⟩ : Chk)) rfl ?_
 refine kZ ?_
 exact kF 3 0 [3,6,8,9,10]
 refine xs_box 12 ⟨107,chkL (⟨0,(⟨#[]⟩ : ByteArray),false⟩ : Chk)⟩ _ rfl (by kernel_rfl) (by kernel_rfl) (by kernel_rfl) (by kernel_rfl) rfl ?_
 refine kA [1] ?_
 refine kSC 1 87 [.agg (sndL s).toArray] (some 34) rfl (xc_b fun ww hf => sNextOf_c s.una s.data s.sent s.fin s.finSent s.done ww ) ?_
 intro _
 refine kX 11 (.agg (chkL (⟨nextOf s,s.data.extract (s.sent).toNat (s.sent + (chunkN s window mss)).toNat,false⟩ : Chk)).toArray) rfl (fun _ _ ww hA => act_build [(0,.int .i64 (nextOf s)),(1,.string (s.data.extract (s.sent).toNat (s.sent + (chunkN s window mss)).toNat))] hA rfl (by kernel_rfl) (by kernel_rfl) ww) ?_
 refine kA [13] ?_
 refine kSS 13 2 0 (chkL (⟨nextOf s,s.data.extract (s.sent).toNat (s.sent + (chunkN s window mss)).toNat,false⟩ : Chk)) rfl ?_
 refine kZ ?_
 exact kF 3 0 [3,6,8,9,10]
 refine kQ ?_
 refine kRD 3 [3,6,8,9,10,47] [(47,.v (.bool s.fin))] ?_
 refine kP 47 (s.fin) (fun h2 => ?_) (fun h2 => ?_)
 refine kRD 5 [3,6,8,9,10,52] [(52,.v (.bool (!s.finSent)))] ?_
 refine kP 52 (!s.finSent) (fun h3 => ?_) (fun h3 => ?_)
 have h3n := not_t h3
 refine kRD 5 [3,6,8,9,10,57] [(57,.v (.bool (!s.done)))] ?_
 refine kP 57 (!s.done) (fun h4 => ?_) (fun h4 => ?_)
 have h4n := not_t h4
 refine kRS 10 [6,8,9,10,67] [(6,.p 1 0),(8,.v (.int .i64 (wnd s window))),(9,.v (.int .i64 (chunkN s window mss))),(10,.p 2 0),(67,.v (.bool ((IntKind.i64.wrap (s.sent + (chunkN s window mss))) == (s.data.size : Int))))] ?_
 refine xl_eqS (t' := [(6,.p 1 0),(8,.v (.int .i64 (wnd s window))),(9,.v (.int .i64 (chunkN s window mss))),(10,.p 2 0),(67,.v (.bool ((s.sent + (chunkN s window mss)) == (s.data.size : Int))))]) (by rw [show (IntKind.i64.wrap (s.sent + (chunkN s window mss))) = (s.sent + (chunkN s window mss)) from wrap_id (by omega) (by omega)]) ?_
 refine kP 67 ((s.sent + (chunkN s window mss)) == (s.data.size : Int)) (fun h5 => ?_) (fun h5 => ?_)
 have h5p := eqT h5
 refine kEU [6,9,10] [] 2 ⟨107,chkL (⟨nextOf s,s.data.extract (s.sent).toNat (s.sent + (chunkN s window mss)).toNat,decide ((wnd s window) > (chunkN s window mss))⟩ : Chk)⟩ ?_
 refine kS ?_
 refine kQ ?_
 refine kRD 3 [6,10,75] [(75,.v (.bool ((chunkN s window mss) == 0)))] ?_
 refine kP 75 ((chunkN s window mss) == 0) (fun h6 => ?_) (fun h6 => ?_)
 have h6p := eqT h6
 refine kED [6,10,79] [(79,.v (.bool (!(decide ((wnd s window) > (chunkN s window mss))))))] ?_
 refine kC (!(decide ((wnd s window) > (chunkN s window mss)))) (fun h7 => ?_) (fun h7 => ?_)
 have h7n := not_t h7
 refine kQ ?_
 refine kOS 0 [6] [(6,.p 1 0)] (.agg (chkL (⟨0,(⟨#[]⟩ : ByteArray),false⟩ : Chk)).toArray) rfl (fun _ _ _ ww hr => act_build [] hr.1 rfl (by kernel_rfl) (by kernel_rfl) ww) ?_
 refine kED [6,7] [(7,.v (.bool false))] ?_
 refine kR ?_
 have hmod : nextChunk s window mss = ((⟨0,(⟨#[]⟩ : ByteArray),false⟩),false) := by first | rfl | (simp [nextChunk,zeroChk,chunkFin, *]; done) | (simp [nextChunk,zeroChk,chunkFin, *]; omega) | grind [nextChunk,zeroChk,chunkFin]
 exact ⟨[.agg (chkL (⟨0,(⟨#[]⟩ : ByteArray),false⟩ : Chk)).toArray,.bool false],by kernel_rfl,fun w' hb hf => by rw [hmod]; exact ⟨rfl,hb⟩⟩
 have h7n := not_f h7
 refine kK ?_
 refine kQ ?_
 refine kEU [6,7] [(7,.v (.bool true))] 1 ⟨107,chkL (⟨nextOf s,s.data.extract (s.sent).toNat (s.sent + (chunkN s window mss)).toNat,decide ((wnd s window) > (chunkN s window mss))⟩ : Chk)⟩ ?_
 refine kR ?_
 have hmod : nextChunk s window mss = ((⟨nextOf s,s.data.extract (s.sent).toNat (s.sent + (chunkN s window mss)).toNat,decide ((wnd s window) > (chunkN s window mss))⟩),true) := by first | rfl | (simp [nextChunk,zeroChk,chunkFin, *]; done) | (simp [nextChunk,zeroChk,chunkFin, *]; omega) | grind [nextChunk,zeroChk,chunkFin]
 exact ⟨[.agg (chkL (⟨nextOf s,s.data.extract (s.sent).toNat (s.sent + (chunkN s window mss)).toNat,decide ((wnd s window) > (chunkN s window mss))⟩ : Chk)).toArray,.bool true],by kernel_rfl,fun w' hb hf => by rw [hmod]; exact ⟨rfl,hb⟩⟩
 have h6p := eqF h6
 refine kED [6,10,79] [(79,.v (.bool false))] ?_
 refine kN ?_
 refine kK ?_
 refine kQ ?_
 refine kEU [6,7] [(7,.v (.bool true))] 1 ⟨107,chkL (⟨nextOf s,s.data.extract (s.sent).toNat (s.sent + (chunkN s window mss)).toNat,decide ((wnd s window) > (chunkN s window mss))⟩ : Chk)⟩ ?_
 refine kR ?_
 have hmod : nextChunk s window mss = ((⟨nextOf s,s.data.extract (s.sent).toNat (s.sent + (chunkN s window mss)).toNat,decide ((wnd s window) > (chunkN s window mss))⟩),true) := by first | rfl | (simp [nextChunk,zeroChk,chunkFin, *]; done) | (simp [nextChunk,zeroChk,chunkFin, *]; omega) | grind [nextChunk,zeroChk,chunkFin]
 exact ⟨[.agg (chkL (⟨nextOf s,s.data.extract (s.sent).toNat (s.sent + (chunkN s window mss)).toNat,decide ((wnd s window) > (chunkN s window mss))⟩ : Chk)).toArray,.bool true],by kernel_rfl,fun w' hb hf => by rw [hmod]; exact ⟨rfl,hb⟩⟩
 have h5p := eqF h5
 refine kED [6,9,10] [] ?_
 refine kS ?_
 refine kQ ?_
 refine kRD 3 [6,10,75] [(75,.v (.bool ((chunkN s window mss) == 0)))] ?_
 refine kP 75 ((chunkN s window mss) == 0) (fun h8 => ?_) (fun h8 => ?_)
 have h8p := eqT h8
 refine kED [6,10,79] [(79,.v (.bool true))] ?_
 refine kT ?_
 refine kQ ?_
 refine kOS 0 [6] [(6,.p 1 0)] (.agg (chkL (⟨0,(⟨#[]⟩ : ByteArray),false⟩ : Chk)).toArray) rfl (fun _ _ _ ww hr => act_build [] hr.1 rfl (by kernel_rfl) (by kernel_rfl) ww) ?_
 refine kED [6,7] [(7,.v (.bool false))] ?_
 refine kR ?_
 have hmod : nextChunk s window mss = ((⟨0,(⟨#[]⟩ : ByteArray),false⟩),false) := by first | rfl | (simp [nextChunk,zeroChk,chunkFin, *]; done) | (simp [nextChunk,zeroChk,chunkFin, *]; omega) | grind [nextChunk,zeroChk,chunkFin]
 exact ⟨[.agg (chkL (⟨0,(⟨#[]⟩ : ByteArray),false⟩ : Chk)).toArray,.bool false],by kernel_rfl,fun w' hb hf => by rw [hmod]; exact ⟨rfl,hb⟩⟩
 have h8p := eqF h8
 refine kED [6,10,79] [(79,.v (.bool false))] ?_
 refine kN ?_
 refine kK ?_
 refine kQ ?_
 refine kEU [6,7] [(7,.v (.bool true))] 1 ⟨107,chkL (⟨nextOf s,s.data.extract (s.sent).toNat (s.sent + (chunkN s window mss)).toNat,false⟩ : Chk)⟩ ?_
 refine kR ?_
 have hmod : nextChunk s window mss = ((⟨nextOf s,s.data.extract (s.sent).toNat (s.sent + (chunkN s window mss)).toNat,false⟩),true) := by first | rfl | (simp [nextChunk,zeroChk,chunkFin, *]; done) | (simp [nextChunk,zeroChk,chunkFin, *]; omega) | grind [nextChunk,zeroChk,chunkFin]
 exact ⟨[.agg (chkL (⟨nextOf s,s.data.extract (s.sent).toNat (s.sent + (chunkN s window mss)).toNat,false⟩ : Chk)).toArray,.bool true],by kernel_rfl,fun w' hb hf => by rw [hmod]; exact ⟨rfl,hb⟩⟩
 have h4n := not_f h4
 refine kED [6,9,10] [] ?_
 refine kS ?_
 refine kQ ?_
 refine kRD 3 [6,10,75] [(75,.v (.bool ((chunkN s window mss) == 0)))] ?_
 refine kP 75 ((chunkN s window mss) == 0) (fun h9 => ?_) (fun h9 => ?_)
 have h9p := eqT h9
 refine kED [6,10,79] [(79,.v (.bool true))] ?_
 refine kT ?_
 refine kQ ?_
 refine kOS 0 [6] [(6,.p 1 0)] (.agg (chkL (⟨0,(⟨#[]⟩ : ByteArray),false⟩ : Chk)).toArray) rfl (fun _ _ _ ww hr => act_build [] hr.1 rfl (by kernel_rfl) (by kernel_rfl) ww) ?_
 refine kED [6,7] [(7,.v (.bool false))] ?_
 refine kR ?_
 have hmod : nextChunk s window mss = ((⟨0,(⟨#[]⟩ : ByteArray),false⟩),false) := by first | rfl | (simp [nextChunk,zeroChk,chunkFin, *]; done) | (simp [nextChunk,zeroChk,chunkFin, *]; omega) | grind [nextChunk,zeroChk,chunkFin]
 exact ⟨[.agg (chkL (⟨0,(⟨#[]⟩ : ByteArray),false⟩ : Chk)).toArray,.bool false],by kernel_rfl,fun w' hb hf => by rw [hmod]; exact ⟨rfl,hb⟩⟩
 have h9p := eqF h9
 refine kED [6,10,79] [(79,.v (.bool false))] ?_
 refine kN ?_
 refine kK ?_
 refine kQ ?_
 refine kEU [6,7] [(7,.v (.bool true))] 1 ⟨107,chkL (⟨nextOf s,s.data.extract (s.sent).toNat (s.sent + (chunkN s window mss)).toNat,false⟩ : Chk)⟩ ?_
 refine kR ?_
 have hmod : nextChunk s window mss = ((⟨nextOf s,s.data.extract (s.sent).toNat (s.sent + (chunkN s window mss)).toNat,false⟩),true) := by first | rfl | (simp [nextChunk,zeroChk,chunkFin, *]; done) | (simp [nextChunk,zeroChk,chunkFin, *]; omega) | grind [nextChunk,zeroChk,chunkFin]
 exact ⟨[.agg (chkL (⟨nextOf s,s.data.extract (s.sent).toNat (s.sent + (chunkN s window mss)).toNat,false⟩ : Chk)).toArray,.bool true],by kernel_rfl,fun w' hb hf => by rw [hmod]; exact ⟨rfl,hb⟩⟩
 have h3n := not_f h3
 refine kED [6,9,10] [] ?_
 refine kS ?_
 refine kQ ?_
 refine kRD 3 [6,10,75] [(75,.v (.bool ((chunkN s window mss) == 0)))] ?_
 refine kP 75 ((chunkN s window mss) == 0) (fun h10 => ?_) (fun h10 => ?_)
 have h10p := eqT h10
 refine kED [6,10,79] [(79,.v (.bool true))] ?_
 refine kT ?_
 refine kQ ?_
 refine kOS 0 [6] [(6,.p 1 0)] (.agg (chkL (⟨0,(⟨#[]⟩ : ByteArray),false⟩ : Chk)).toArray) rfl (fun _ _ _ ww hr => act_build [] hr.1 rfl (by kernel_rfl) (by kernel_rfl) ww) ?_
 refine kED [6,7] [(7,.v (.bool false))] ?_
 refine kR ?_
 have hmod : nextChunk s window mss = ((⟨0,(⟨#[]⟩ : ByteArray),false⟩),false) := by first | rfl | (simp [nextChunk,zeroChk,chunkFin, *]; done) | (simp [nextChunk,zeroChk,chunkFin, *]; omega) | grind [nextChunk,zeroChk,chunkFin]
 exact ⟨[.agg (chkL (⟨0,(⟨#[]⟩ : ByteArray),false⟩ : Chk)).toArray,.bool false],by kernel_rfl,fun w' hb hf => by rw [hmod]; exact ⟨rfl,hb⟩⟩
 have h10p := eqF h10
 refine kED [6,10,79] [(79,.v (.bool false))] ?_
 refine kN ?_
 refine kK ?_
 refine kQ ?_
 refine kEU [6,7] [(7,.v (.bool true))] 1 ⟨107,chkL (⟨nextOf s,s.data.extract (s.sent).toNat (s.sent + (chunkN s window mss)).toNat,false⟩ : Chk)⟩ ?_
 refine kR ?_
 have hmod : nextChunk s window mss = ((⟨nextOf s,s.data.extract (s.sent).toNat (s.sent + (chunkN s window mss)).toNat,false⟩),true) := by first | rfl | (simp [nextChunk,zeroChk,chunkFin, *]; done) | (simp [nextChunk,zeroChk,chunkFin, *]; omega) | grind [nextChunk,zeroChk,chunkFin]
 exact ⟨[.agg (chkL (⟨nextOf s,s.data.extract (s.sent).toNat (s.sent + (chunkN s window mss)).toNat,false⟩ : Chk)).toArray,.bool true],by kernel_rfl,fun w' hb hf => by rw [hmod]; exact ⟨rfl,hb⟩⟩
 refine kED [6,9,10] [] ?_
 refine kS ?_
 refine kQ ?_
 refine kRD 3 [6,10,75] [(75,.v (.bool ((chunkN s window mss) == 0)))] ?_
 refine kP 75 ((chunkN s window mss) == 0) (fun h11 => ?_) (fun h11 => ?_)
 have h11p := eqT h11
 refine kED [6,10,79] [(79,.v (.bool true))] ?_
 refine kT ?_
 refine kQ ?_
 refine kOS 0 [6] [(6,.p 1 0)] (.agg (chkL (⟨0,(⟨#[]⟩ : ByteArray),false⟩ : Chk)).toArray) rfl (fun _ _ _ ww hr => act_build [] hr.1 rfl (by kernel_rfl) (by kernel_rfl) ww) ?_
 refine kED [6,7] [(7,.v (.bool false))] ?_
 refine kR ?_
 have hmod : nextChunk s window mss = ((⟨0,(⟨#[]⟩ : ByteArray),false⟩),false) := by first | rfl | (simp [nextChunk,zeroChk,chunkFin, *]; done) | (simp [nextChunk,zeroChk,chunkFin, *]; omega) | grind [nextChunk,zeroChk,chunkFin]
 exact ⟨[.agg (chkL (⟨0,(⟨#[]⟩ : ByteArray),false⟩ : Chk)).toArray,.bool false],by kernel_rfl,fun w' hb hf => by rw [hmod]; exact ⟨rfl,hb⟩⟩
 have h11p := eqF h11
 refine kED [6,10,79] [(79,.v (.bool false))] ?_
 refine kN ?_
 refine kK ?_
 refine kQ ?_
 refine kEU [6,7] [(7,.v (.bool true))] 1 ⟨107,chkL (⟨nextOf s,s.data.extract (s.sent).toNat (s.sent + (chunkN s window mss)).toNat,false⟩ : Chk)⟩ ?_
 refine kR ?_
 have hmod : nextChunk s window mss = ((⟨nextOf s,s.data.extract (s.sent).toNat (s.sent + (chunkN s window mss)).toNat,false⟩),true) := by first | rfl | (simp [nextChunk,zeroChk,chunkFin, *]; done) | (simp [nextChunk,zeroChk,chunkFin, *]; omega) | grind [nextChunk,zeroChk,chunkFin]
 exact ⟨[.agg (chkL (⟨nextOf s,s.data.extract (s.sent).toNat (s.sent + (chunkN s window mss)).toNat,false⟩ : Chk)).toArray,.bool true],by kernel_rfl,fun w' hb hf => by rw [hmod]; exact ⟨rfl,hb⟩⟩
theorem ysSentOff_c (s : Snd) (c : Chk) (w : World)  : Calls Tryz.prog 91 #[.agg (sndL s).toArray, .agg (chkL c).toArray] w fun e w' => e = .returned (.agg (sndL (sentOff s c)).toArray) ∧ Below w.heap.size w w' := by
 have hsf := sentS_fin s c
 refine x_calls (args := [.agg (sndL s).toArray,.agg (chkL c).toArray]) (fn := Tryz.f91) [] Tryz.func91 rfl Tryz.ntmps91 rfl (by simp) ?_
 refine kQ ?_
 refine kEF [2,3,4] ⟨[(2,.p 0 0),(3,.p 1 0),(4,.p 2 0)],[⟨38,sndL s⟩,⟨107,chkL c⟩,⟨38,sndZ⟩],[],[]⟩ ?_
 refine kQ ?_
 refine kEF [2,3,4,5] ⟨[(2,.p 0 0),(3,.p 1 0),(4,.p 2 0),(5,.p 3 0)],[⟨38,sndL s⟩,⟨107,chkL c⟩,⟨38,sndZ⟩,⟨38,sndL s⟩],[],[]⟩ ?_
 refine kQ ?_
 refine kEF [2,3,4,5] ⟨[(2,.p 0 0),(3,.p 1 0),(4,.p 2 0),(5,.p 3 0)],[⟨38,sndL s⟩,⟨107,chkL c⟩,⟨38,sndZ⟩,⟨38,sndL { s with sent := IntKind.i64.wrap (s.sent + (c.text.size : Int)) }⟩],[],[]⟩ ?_
 refine kS ?_
 refine xw_join ⟨[(2,.p 0 0),(3,.p 1 0),(4,.p 2 0),(5,.p 3 0)],[⟨38,sndL s⟩,⟨107,chkL c⟩,⟨38,sndZ⟩,⟨38,sndL { s with sent := IntKind.i64.wrap (s.sent + (c.text.size : Int)),finSent := s.finSent || c.fin }⟩],[],[]⟩ ?_ ?_
 refine kG ?_
 refine kRS 3 [2,3,4,5,16] [(2,.p 0 0),(3,.p 1 0),(4,.p 2 0),(5,.p 3 0),(16,.v (.bool s.finSent))] ?_
 refine kP 16 (s.finSent) (fun h1 => ?_) (fun h1 => ?_)
 refine kEF [2,3,4,5] ⟨[(2,.p 0 0),(3,.p 1 0),(4,.p 2 0),(5,.p 3 0)],[⟨38,sndL s⟩,⟨107,chkL c⟩,⟨38,sndZ⟩,⟨38,sndL { s with sent := IntKind.i64.wrap (s.sent + (c.text.size : Int)),finSent := true }⟩],[],[]⟩ ?_
 show Wk _ _
 try rw [h1]
 exact kF 4 0 [2,3,4,5]
 refine kEF [2,3,4,5] ⟨[(2,.p 0 0),(3,.p 1 0),(4,.p 2 0),(5,.p 3 0)],[⟨38,sndL s⟩,⟨107,chkL c⟩,⟨38,sndZ⟩,⟨38,sndL { s with sent := IntKind.i64.wrap (s.sent + (c.text.size : Int)),finSent := c.fin }⟩],[],[]⟩ ?_
 show Wk _ _
 try rw [h1]
 exact kF 4 0 [2,3,4,5]
 refine kS ?_
 refine kS ?_
 refine xw_join ⟨[(2,.p 0 0),(4,.p 2 0),(5,.p 3 0),(36,.v (.bool ((!(senderOk s)) || ((!(senderOk ({ s with sent := IntKind.i64.wrap (s.sent + (c.text.size : Int)),finSent := s.finSent || c.fin }))) || (c.fin && s.done)))))],[⟨38,sndL s⟩,⟨107,chkL c⟩,⟨38,sndZ⟩,⟨38,sndL { s with sent := IntKind.i64.wrap (s.sent + (c.text.size : Int)),finSent := s.finSent || c.fin }⟩],[],[]⟩ ?_ ?_
 refine kG ?_
 refine kCS 1 [2,3,4,5,21] [(2,.p 0 0),(3,.p 1 0),(4,.p 2 0),(5,.p 3 0),(21,.v (.agg (sndL s).toArray))] 64 [.agg (sndL s).toArray] (some 22) rfl (xc_b fun ww hf => sSenderOk_c s.una s.data s.sent s.fin s.finSent s.done ww ) ?_
 intro _
 refine kRS 2 [2,3,4,5,24] [(2,.p 0 0),(3,.p 1 0),(4,.p 2 0),(5,.p 3 0),(24,.v (.bool (!(senderOk s))))] ?_
 refine kP 24 (!(senderOk s)) (fun h2 => ?_) (fun h2 => ?_)
 have h2n := not_t h2
 refine kES [2,4,5,36] [(2,.p 0 0),(4,.p 2 0),(5,.p 3 0),(36,.v (.bool true))] ?_
 show Wk _ _
 try rw [h2]
 exact kF 4 0 [2,4,5,36]
 have h2n := not_f h2
 have h2nb := senderOk_bd (s := s) (by simpa using h2n)
 obtain ⟨h2nb0,h2nb1,h2nb2,h2nb3,h2nb4,h2nb5,h2nb6,h2nb7,h2nb8,h2nb9,h2nb10⟩ := h2nb
 refine kCS 1 [2,3,4,5,24,25] [(2,.p 0 0),(3,.p 1 0),(4,.p 2 0),(5,.p 3 0),(24,.v (.bool false)),(25,.v (.agg (sndL { s with sent := IntKind.i64.wrap (s.sent + (c.text.size : Int)),finSent := s.finSent || c.fin }).toArray))] 64 [.agg (sndL { s with sent := IntKind.i64.wrap (s.sent + (c.text.size : Int)),finSent := s.finSent || c.fin }).toArray] (some 26) rfl (xc_b fun ww hf => sSenderOk_c s.una s.data (IntKind.i64.wrap (s.sent + (c.text.size : Int))) s.fin (s.finSent || c.fin) s.done ww ) ?_
 intro _
 refine kRS 3 [2,3,4,5,29] [(2,.p 0 0),(3,.p 1 0),(4,.p 2 0),(5,.p 3 0),(29,.v (.bool (!(senderOk ({ s with sent := IntKind.i64.wrap (s.sent + (c.text.size : Int)),finSent := s.finSent || c.fin })))))] ?_
 refine kP 29 (!(senderOk ({ s with sent := IntKind.i64.wrap (s.sent + (c.text.size : Int)),finSent := s.finSent || c.fin }))) (fun h3 => ?_) (fun h3 => ?_)
 have h3n := not_t h3
 refine kES [2,4,5,36] [(2,.p 0 0),(4,.p 2 0),(5,.p 3 0),(36,.v (.bool true))] ?_
 show Wk _ _
 try rw [h2]
 try rw [h3]
 exact kF 4 0 [2,4,5,36]
 have h3n := not_f h3
 have h3nb := senderOk_bd (s := ({ s with sent := IntKind.i64.wrap (s.sent + (c.text.size : Int)),finSent := s.finSent || c.fin })) (by simpa using h3n)
 obtain ⟨h3nb0,h3nb1,h3nb2,h3nb3,h3nb4,h3nb5,h3nb6,h3nb7,h3nb8,h3nb9,h3nb10⟩ := h3nb
 refine kRS 3 [2,4,5,29,32] [(2,.p 0 0),(4,.p 2 0),(5,.p 3 0),(29,.v (.bool false)),(32,.v (.bool c.fin))] ?_
 refine kP 32 (c.fin) (fun h4 => ?_) (fun h4 => ?_)
 refine kES [2,4,5,36] [(2,.p 0 0),(4,.p 2 0),(5,.p 3 0),(36,.v (.bool s.done))] ?_
 show Wk _ _
 try rw [h2]
 try rw [h3]
 try rw [h4]
 exact kF 4 0 [2,4,5,36]
 refine kES [2,4,5,36] [(2,.p 0 0),(4,.p 2 0),(5,.p 3 0),(36,.v (.bool false))] ?_
 show Wk _ _
 try rw [h2]
 try rw [h3]
 try rw [h4]
 exact kF 4 0 [2,4,5,36]
 refine kC ((!(senderOk s)) || ((!(senderOk ({ s with sent := IntKind.i64.wrap (s.sent + (c.text.size : Int)),finSent := s.finSent || c.fin }))) || (c.fin && s.done))) (fun h5 => ?_) (fun h5 => ?_)
 refine kQ ?_
 refine kEF [4] ⟨[(4,.p 2 0)],[⟨38,sndL s⟩,⟨107,chkL c⟩,⟨38,sndL s⟩,⟨38,sndL { s with sent := IntKind.i64.wrap (s.sent + (c.text.size : Int)),finSent := s.finSent || c.fin }⟩],[],[]⟩ ?_
 refine kR ?_
 have hmod : sentOff s c = s := by first | rfl | (simp [sentOff,sentS, *]; done) | grind [sentOff,sentS]
 exact ⟨[.agg (sndL s).toArray],by kernel_rfl,fun w' hb hf => by rw [hmod]; exact ⟨rfl,hb⟩⟩
 have h5l := or_l h5
 have h5ln := not_f h5l
 have h5lnb := senderOk_bd (s := s) (by simpa using h5ln)
 obtain ⟨h5lnb0,h5lnb1,h5lnb2,h5lnb3,h5lnb4,h5lnb5,h5lnb6,h5lnb7,h5lnb8,h5lnb9,h5lnb10⟩ := h5lnb
 have h5r := or_r h5
 have h5rl := or_l h5r
 have h5rln := not_f h5rl
 have h5rlnb := senderOk_bd (s := ({ s with sent := IntKind.i64.wrap (s.sent + (c.text.size : Int)),finSent := s.finSent || c.fin })) (by simpa using h5rln)
 obtain ⟨h5rlnb0,h5rlnb1,h5rlnb2,h5rlnb3,h5rlnb4,h5rlnb5,h5rlnb6,h5rlnb7,h5rlnb8,h5rlnb9,h5rlnb10⟩ := h5rlnb
 have h5rr := or_r h5r
 refine kK ?_
 refine kQ ?_
 refine kEF [4] ⟨[(4,.p 2 0)],[⟨38,sndL s⟩,⟨107,chkL c⟩,⟨38,sndL { s with sent := IntKind.i64.wrap (s.sent + (c.text.size : Int)),finSent := s.finSent || c.fin }⟩,⟨38,sndL { s with sent := IntKind.i64.wrap (s.sent + (c.text.size : Int)),finSent := s.finSent || c.fin }⟩],[],[]⟩ ?_
 refine kR ?_
 have hmod : sentOff s c = ({ s with sent := IntKind.i64.wrap (s.sent + (c.text.size : Int)),finSent := s.finSent || c.fin }) := by first | rfl | (simp [sentOff,sentS, *]; done) | grind [sentOff,sentS]
 exact ⟨[.agg (sndL { s with sent := IntKind.i64.wrap (s.sent + (c.text.size : Int)),finSent := s.finSent || c.fin }).toArray],by kernel_rfl,fun w' hb hf => by rw [hmod]; exact ⟨rfl,hb⟩⟩
end Go.Proofs.YtebgmdiejgcoiaaGreat
