/- Contracts that this law needs, part 2. -/
import Derived.Test.YtnmmhbhdcplfmaaGreatZ1
namespace Go.Proofs.YtnmmhbhdcplfmaaGreat
open Go.RowKit
set_option linter.unusedVariables false
set_option linter.unusedSimpArgs false
set_option maxRecDepth 100000
set_option maxHeartbeats 2000000

theorem ysTurned_c (c : Con) (c_r_heldV : Value) (w : World) (hl_c_r_heldV : Sl w c_r_heldV 2 (c.r.held.map pceCells)) (hkn : c.r.held.length ≤ 1048576)(hm : ∀ p ∈ c.r.held, p.text.size ≤ 1048576) (hsz : c.r.data.size ≤ 4611686018427387904) (B : Nat) (hB : B ≤ w.heap.size) : Calls Tryz.prog 140 #[.agg (conL c c_r_heldV).toArray] w fun e w' => XRs w w' e (α := Option Addr × Nat) (fun y => .agg (conL (turned c) (.slice y.1 ((turned c).r.held.length) y.2)).toArray) (fun y => [ownF B (.slice y.1 ((turned c).r.held.length) y.2) 2 ((turned c).r.held.map pceCells)]) := by
 obtain ⟨Acrh,Ccrh,hvcrh⟩ := hl_c_r_heldV.form
 rw [List.length_map] at hvcrh; subst hvcrh
 have hncrh := hl_c_r_heldV.len; rw [List.length_map] at hncrh
 have hqcrh := Sl.capLe hl_c_r_heldV
 have ht : conOk { c with state := turnState c,timer := 0 } = (conOk { c with state := turnState c,timer := 0,tries := 0 } && inB c.tries 0 3) := conOk_tries _
 refine x_callsA (args := [.agg (conL c (.slice Acrh c.r.held.length Ccrh)).toArray]) (fn := Tryz.f140) [slF (.slice Acrh c.r.held.length Ccrh) 2 (c.r.held.map pceCells)] Tryz.func140 rfl Tryz.ntmps140 rfl (by simp only [List.mem_cons,List.not_mem_nil,or_false,forall_eq_or_imp,forall_eq]; exact ⟨rfl,hl_c_r_heldV⟩) ?_
 refine kQ ?_
 refine kEF [1,2] ⟨[(1,.p 0 0),(2,.p 1 0)],[⟨34,conL c (.slice Acrh c.r.held.length Ccrh)⟩,⟨34,conZ⟩],[],[slF (.slice Acrh c.r.held.length Ccrh) 2 (c.r.held.map pceCells)]⟩ ?_
 refine kQ ?_
 refine kCS 1 [1,2,4] [(1,.p 0 0),(2,.p 1 0),(4,.v (.agg (conL c (.slice Acrh c.r.held.length Ccrh)).toArray))] 70 [.agg (conL c (.slice Acrh c.r.held.length Ccrh)).toArray] (some 5) rfl (xc_r fun ww hw hf => yl19Copy_c c (.slice Acrh c.r.held.length Ccrh) ww (hf _ m0) (by assumption) w.heap.size hw) ?_
 rintro ⟨v1a,v1c⟩
 refine kEF [1,2,3] ⟨[(1,.p 0 0),(2,.p 1 0),(3,.p 2 0)],[⟨34,conL c (.slice Acrh c.r.held.length Ccrh)⟩,⟨34,conZ⟩,⟨34,conL c (.slice v1a c.r.held.length v1c)⟩],[],[ownF w.heap.size (.slice v1a c.r.held.length v1c) 2 (c.r.held.map pceCells),slF (.slice Acrh c.r.held.length Ccrh) 2 (c.r.held.map pceCells)]⟩ ?_
 refine kQ ?_
 refine kCS 1 [1,2,3,6] [(1,.p 0 0),(2,.p 1 0),(3,.p 2 0),(6,.v (.agg (conL c (.slice Acrh c.r.held.length Ccrh)).toArray))] 144 [.agg (conL c (.slice Acrh c.r.held.length Ccrh)).toArray] (some 7) rfl (xc_b fun ww hf => yl21State_c c (.slice Acrh c.r.held.length Ccrh) ww (hf _ m1) ) ?_
 intro _
 refine kEF [1,2,3] ⟨[(1,.p 0 0),(2,.p 1 0),(3,.p 2 0)],[⟨34,conL c (.slice Acrh c.r.held.length Ccrh)⟩,⟨34,conZ⟩,⟨34,conL { c with state := (turnState c) } (.slice v1a c.r.held.length v1c)⟩],[],[ownF w.heap.size (.slice v1a c.r.held.length v1c) 2 (c.r.held.map pceCells),slF (.slice Acrh c.r.held.length Ccrh) 2 (c.r.held.map pceCells)]⟩ ?_
 refine kS ?_
 refine kS ?_
 refine xw_join ⟨[(1,.p 0 0),(2,.p 1 0),(3,.p 2 0),(37,.v (.bool ((!(conOk ({ c with state := (turnState c),timer := 0,tries := 0 }))) || ((!(inB c.timer 0 4)) || (!(inB c.tries 0 3))))))],[⟨34,conL c (.slice Acrh c.r.held.length Ccrh)⟩,⟨34,conZ⟩,⟨34,conL { c with state := (turnState c) } (.slice v1a c.r.held.length v1c)⟩],[],[ownF w.heap.size (.slice v1a c.r.held.length v1c) 2 (c.r.held.map pceCells),slF (.slice Acrh c.r.held.length Ccrh) 2 (c.r.held.map pceCells)]⟩ ?_ ?_
 refine kG ?_
 refine kOS 14 [1,2,3,10,12,14,16,18,20,22] [(1,.p 0 0),(2,.p 1 0),(3,.p 2 0),(10,.v (.agg (tupL c.t).toArray)),(12,.v (.int .i64 (turnState c))),(14,.v (.agg (sndL c.s).toArray)),(16,.v (.agg (rcvL c.r (.slice Acrh c.r.held.length Ccrh)).toArray)),(18,.v (.int .i64 c.window)),(20,.v (.int .i64 c.most)),(22,.v (.agg (optL c.o).toArray))] (.agg (conL { c with state := (turnState c),timer := 0,tries := 0 } (.slice Acrh c.r.held.length Ccrh)).toArray) rfl (fun _ _ _ ww hr => act_build [(0,.agg (tupL c.t).toArray),(1,.int .i64 (turnState c)),(2,.agg (sndL c.s).toArray),(3,.agg (rcvL c.r (.slice Acrh c.r.held.length Ccrh)).toArray),(4,.int .i64 c.window),(5,.int .i64 c.most),(6,.agg (optL c.o).toArray)] hr.1 rfl (by kernel_rfl) (by kernel_rfl) ww) ?_
 refine kCS 0 [1,2,3,23] [(1,.p 0 0),(2,.p 1 0),(3,.p 2 0),(23,.v (.agg (conL { c with state := (turnState c),timer := 0,tries := 0 } (.slice Acrh c.r.held.length Ccrh)).toArray))] 23 [.agg (conL { c with state := (turnState c),timer := 0,tries := 0 } (.slice Acrh c.r.held.length Ccrh)).toArray] (some 24) rfl (xc_b fun ww hf => ysConnOk_c ({ c with state := (turnState c),timer := 0,tries := 0 }) (.slice Acrh c.r.held.length Ccrh) ww (hf _ m1) (by assumption) (by omega)) ?_
 intro _
 refine kRS 2 [1,2,3,26] [(1,.p 0 0),(2,.p 1 0),(3,.p 2 0),(26,.v (.bool (!(conOk ({ c with state := (turnState c),timer := 0,tries := 0 })))))] ?_
 refine kP 26 (!(conOk ({ c with state := (turnState c),timer := 0,tries := 0 }))) (fun h2 => ?_) (fun h2 => ?_)
 have h2n := not_t h2
 refine kES [1,2,3,37] [(1,.p 0 0),(2,.p 1 0),(3,.p 2 0),(37,.v (.bool true))] ?_
 show Wk _ _
 try rw [h2]
 exact kF 3 0 [1,2,3,37]
 have h2n := not_f h2
 refine kCS 2 [1,2,3,26,28] [(1,.p 0 0),(2,.p 1 0),(3,.p 2 0),(26,.v (.bool false)),(28,.v (.int .i64 c.timer))] 78 [.int .i64 c.timer,.int .i64 0,.int .i64 4] (some 29) rfl (xc_s fun ww hf => l1In_c c.timer 0 4 ww ) ?_
 intro _
 refine kRS 3 [1,2,3,32] [(1,.p 0 0),(2,.p 1 0),(3,.p 2 0),(32,.v (.bool (!(inB c.timer 0 4))))] ?_
 refine kP 32 (!(inB c.timer 0 4)) (fun h3 => ?_) (fun h3 => ?_)
 have h3n := not_t h3
 have h3ni := inB_ff.1 (show inB c.timer 0 4 = false from by simpa using h3n)
 refine kES [1,2,3,37] [(1,.p 0 0),(2,.p 1 0),(3,.p 2 0),(37,.v (.bool true))] ?_
 show Wk _ _
 try rw [h2]
 try rw [h3]
 exact kF 3 0 [1,2,3,37]
 have h3n := not_f h3
 have h3ni := inB_tt.1 (show inB c.timer 0 4 = true from by simpa using h3n)
 refine kCS 2 [1,2,3,32,34] [(1,.p 0 0),(2,.p 1 0),(3,.p 2 0),(32,.v (.bool false)),(34,.v (.int .i64 c.tries))] 78 [.int .i64 c.tries,.int .i64 0,.int .i64 3] (some 35) rfl (xc_s fun ww hf => l1In_c c.tries 0 3 ww ) ?_
 intro _
 refine kES [1,2,3,37] [(1,.p 0 0),(2,.p 1 0),(3,.p 2 0),(37,.v (.bool (!(inB c.tries 0 3))))] ?_
 show Wk _ _
 try rw [h2]
 try rw [h3]
 exact kF 3 0 [1,2,3,37]
 refine kC ((!(conOk ({ c with state := (turnState c),timer := 0,tries := 0 }))) || ((!(inB c.timer 0 4)) || (!(inB c.tries 0 3)))) (fun h4 => ?_) (fun h4 => ?_)
 refine kQ ?_
 refine kCS 1 [2,38] [(2,.p 1 0),(38,.v (.agg (conL c (.slice Acrh c.r.held.length Ccrh)).toArray))] 70 [.agg (conL c (.slice Acrh c.r.held.length Ccrh)).toArray] (some 39) rfl (xc_r fun ww hw hf => yl19Copy_c c (.slice Acrh c.r.held.length Ccrh) ww (hf _ m1) (by assumption) w.heap.size hw) ?_
 rintro ⟨v5a,v5c⟩
 refine kEF [2] ⟨[(2,.p 1 0)],[⟨34,conL c (.slice Acrh c.r.held.length Ccrh)⟩,⟨34,conL c (.slice v5a c.r.held.length v5c)⟩,⟨34,conL { c with state := (turnState c) } (.slice v1a c.r.held.length v1c)⟩],[],[ownF w.heap.size (.slice v5a c.r.held.length v5c) 2 (c.r.held.map pceCells),ownF w.heap.size (.slice v1a c.r.held.length v1c) 2 (c.r.held.map pceCells),slF (.slice Acrh c.r.held.length Ccrh) 2 (c.r.held.map pceCells)]⟩ ?_
 refine kR ?_
 have hmod : turned c = c := by first | rfl | (simp [turned, *]; done) | grind [turned] | grind [turned,turnState]
 exact ⟨[.agg (conL c (.slice v5a c.r.held.length v5c)).toArray],by kernel_rfl,fun w' hb hf ha => by rw [hmod]; exact xo1 ((v5a,v5c)) rfl rfl (pO (hf _ m0) hB) hb⟩
 have h4l := or_l h4
 have h4ln := not_f h4l
 have h4r := or_r h4
 have h4rl := or_l h4r
 have h4rln := not_f h4rl
 have h4rlni := inB_tt.1 (show inB c.timer 0 4 = true from by simpa using h4rln)
 have h4rr := or_r h4r
 have h4rrn := not_f h4rr
 have h4rrni := inB_tt.1 (show inB c.tries 0 3 = true from by simpa using h4rrn)
 refine kK ?_
 refine kS ?_
 refine kQ ?_
 refine kES [2,3,44] [(2,.p 1 0),(3,.p 2 0),(44,.v (.bool ((turnState c) == c.state)))] ?_
 refine kC ((turnState c) == c.state) (fun h6 => ?_) (fun h6 => ?_)
 have h6p := eqT h6
 refine kQ ?_
 refine kEF [2] ⟨[(2,.p 1 0)],[⟨34,conL c (.slice Acrh c.r.held.length Ccrh)⟩,⟨34,conL { c with state := (turnState c) } (.slice v1a c.r.held.length v1c)⟩,⟨34,conL { c with state := (turnState c) } (.slice v1a c.r.held.length v1c)⟩],[],[ownF w.heap.size (.slice v1a c.r.held.length v1c) 2 (c.r.held.map pceCells),slF (.slice Acrh c.r.held.length Ccrh) 2 (c.r.held.map pceCells)]⟩ ?_
 refine kR ?_
 have hmod : turned c = ({ c with state := (turnState c) }) := by first | rfl | (simp [turned, *]; done) | grind [turned] | grind [turned,turnState]
 exact ⟨[.agg (conL { c with state := (turnState c) } (.slice v1a c.r.held.length v1c)).toArray],by kernel_rfl,fun w' hb hf ha => by rw [hmod]; exact xo1 ((v1a,v1c)) rfl rfl (pO (hf _ m0) hB) hb⟩
 have h6p := eqF h6
 refine kK ?_
 refine kS ?_
 refine kQ ?_
 refine kES [2,3,48] [(2,.p 1 0),(3,.p 2 0),(48,.v (.bool ((turnState c) == 7)))] ?_
 refine xw_join ⟨[(2,.p 1 0),(3,.p 2 0)],[⟨34,conL c (.slice Acrh c.r.held.length Ccrh)⟩,⟨34,conZ⟩,⟨34,conL { c with state := (turnState c),timer := if ((turnState c) == 7) = true then 4 else c.timer,tries := if ((turnState c) == 7) = true then 0 else c.tries } (.slice v1a c.r.held.length v1c)⟩],[],[ownF w.heap.size (.slice v1a c.r.held.length v1c) 2 (c.r.held.map pceCells),slF (.slice Acrh c.r.held.length Ccrh) 2 (c.r.held.map pceCells)]⟩ ?_ ?_
 refine kC ((turnState c) == 7) (fun h7 => ?_) (fun h7 => ?_)
 have h7p := eqT h7
 refine kQ ?_
 refine kEF [2,3] ⟨[(2,.p 1 0),(3,.p 2 0)],[⟨34,conL c (.slice Acrh c.r.held.length Ccrh)⟩,⟨34,conZ⟩,⟨34,conL { c with state := (turnState c),timer := 4 } (.slice v1a c.r.held.length v1c)⟩],[],[ownF w.heap.size (.slice v1a c.r.held.length v1c) 2 (c.r.held.map pceCells),slF (.slice Acrh c.r.held.length Ccrh) 2 (c.r.held.map pceCells)]⟩ ?_
 refine kG ?_
 refine kEF [2,3] ⟨[(2,.p 1 0),(3,.p 2 0)],[⟨34,conL c (.slice Acrh c.r.held.length Ccrh)⟩,⟨34,conZ⟩,⟨34,conL { c with state := (turnState c),timer := 4,tries := 0 } (.slice v1a c.r.held.length v1c)⟩],[],[ownF w.heap.size (.slice v1a c.r.held.length v1c) 2 (c.r.held.map pceCells),slF (.slice Acrh c.r.held.length Ccrh) 2 (c.r.held.map pceCells)]⟩ ?_
 show Wk _ _; rw [h7]; exact kF 3 0 [2,3]
 have h7p := eqF h7
 refine kK ?_
 show Wk _ _; rw [h7]; exact kF 3 0 [2,3]
 refine kS ?_
 refine kQ ?_
 refine kES [2,3,53] [(2,.p 1 0),(3,.p 2 0),(53,.v (.bool ((turnState c) == 8)))] ?_
 refine xw_join ⟨[(2,.p 1 0),(3,.p 2 0)],[⟨34,conL c (.slice Acrh c.r.held.length Ccrh)⟩,⟨34,conZ⟩,⟨34,conL { c with state := (turnState c),timer := if ((turnState c) == 8) = true then 0 else if ((turnState c) == 7) = true then 4 else c.timer,tries := if ((turnState c) == 8) = true then 0 else if ((turnState c) == 7) = true then 0 else c.tries } (.slice v1a c.r.held.length v1c)⟩],[],[ownF w.heap.size (.slice v1a c.r.held.length v1c) 2 (c.r.held.map pceCells),slF (.slice Acrh c.r.held.length Ccrh) 2 (c.r.held.map pceCells)]⟩ ?_ ?_
 refine kC ((turnState c) == 8) (fun h8 => ?_) (fun h8 => ?_)
 have h8p := eqT h8
 refine kQ ?_
 refine kEF [2,3] ⟨[(2,.p 1 0),(3,.p 2 0)],[⟨34,conL c (.slice Acrh c.r.held.length Ccrh)⟩,⟨34,conZ⟩,⟨34,conL { c with state := (turnState c),timer := 0,tries := if ((turnState c) == 7) = true then 0 else c.tries } (.slice v1a c.r.held.length v1c)⟩],[],[ownF w.heap.size (.slice v1a c.r.held.length v1c) 2 (c.r.held.map pceCells),slF (.slice Acrh c.r.held.length Ccrh) 2 (c.r.held.map pceCells)]⟩ ?_
 refine kG ?_
 refine kEF [2,3] ⟨[(2,.p 1 0),(3,.p 2 0)],[⟨34,conL c (.slice Acrh c.r.held.length Ccrh)⟩,⟨34,conZ⟩,⟨34,conL { c with state := (turnState c),timer := 0,tries := 0 } (.slice v1a c.r.held.length v1c)⟩],[],[ownF w.heap.size (.slice v1a c.r.held.length v1c) 2 (c.r.held.map pceCells),slF (.slice Acrh c.r.held.length Ccrh) 2 (c.r.held.map pceCells)]⟩ ?_
 show Wk _ _; rw [h8]; exact kF 3 0 [2,3]
 have h8p := eqF h8
 refine kK ?_
 show Wk _ _; rw [h8]; exact kF 3 0 [2,3]
 refine kQ ?_
 refine kEF [2] ⟨[(2,.p 1 0)],[⟨34,conL c (.slice Acrh c.r.held.length Ccrh)⟩,⟨34,conL { c with state := (turnState c),timer := if ((turnState c) == 8) = true then 0 else if ((turnState c) == 7) = true then 4 else c.timer,tries := if ((turnState c) == 8) = true then 0 else if ((turnState c) == 7) = true then 0 else c.tries } (.slice v1a c.r.held.length v1c)⟩,⟨34,conL { c with state := (turnState c),timer := if ((turnState c) == 8) = true then 0 else if ((turnState c) == 7) = true then 4 else c.timer,tries := if ((turnState c) == 8) = true then 0 else if ((turnState c) == 7) = true then 0 else c.tries } (.slice v1a c.r.held.length v1c)⟩],[],[ownF w.heap.size (.slice v1a c.r.held.length v1c) 2 (c.r.held.map pceCells),slF (.slice Acrh c.r.held.length Ccrh) 2 (c.r.held.map pceCells)]⟩ ?_
 refine kR ?_
 have hmod : turned c = ({ c with state := (turnState c),timer := if ((turnState c) == 8) = true then 0 else if ((turnState c) == 7) = true then 4 else c.timer,tries := if ((turnState c) == 8) = true then 0 else if ((turnState c) == 7) = true then 0 else c.tries }) := by first | rfl | (simp [turned, *]; done) | grind [turned] | grind [turned,turnState]
 exact ⟨[.agg (conL { c with state := (turnState c),timer := if ((turnState c) == 8) = true then 0 else if ((turnState c) == 7) = true then 4 else c.timer,tries := if ((turnState c) == 8) = true then 0 else if ((turnState c) == 7) = true then 0 else c.tries } (.slice v1a c.r.held.length v1c)).toArray],by kernel_rfl,fun w' hb hf ha => by rw [hmod]; exact xo1 ((v1a,v1c)) rfl rfl (pO (hf _ m0) hB) hb⟩
theorem ysAbort_c (c : Con) (c_r_heldV : Value) (w : World) (hl_c_r_heldV : Sl w c_r_heldV 2 (c.r.held.map pceCells)) (hkn : c.r.held.length ≤ 1048576)(hm : ∀ p ∈ c.r.held, p.text.size ≤ 1048576) (hsz : c.r.data.size ≤ 4611686018427387904) (B : Nat) (hB : B ≤ w.heap.size) : Calls Tryz.prog 31 #[.agg (conL c c_r_heldV).toArray] w fun e w' => XRs w w' e (α := (Option Addr × Nat) × (Option Addr × Nat)) (fun y => .tuple #[.agg (conL (abort c).1 (.slice y.1.1 ((abort c).1.r.held.length) y.1.2)).toArray, .slice y.2.1 ((abort c).2.length) y.2.2]) (fun y => [ownF B (.slice y.1.1 ((abort c).1.r.held.length) y.1.2) 2 ((abort c).1.r.held.map pceCells), ownF B (.slice y.2.1 ((abort c).2.length) y.2.2) 13 ((abort c).2.map segCells)]) := by
 obtain ⟨Acrh,Ccrh,hvcrh⟩ := hl_c_r_heldV.form
 rw [List.length_map] at hvcrh; subst hvcrh
 have hncrh := hl_c_r_heldV.len; rw [List.length_map] at hncrh
 have hqcrh := Sl.capLe hl_c_r_heldV
 refine x_callsA (args := [.agg (conL c (.slice Acrh c.r.held.length Ccrh)).toArray]) (fn := Tryz.f31) [slF (.slice Acrh c.r.held.length Ccrh) 2 (c.r.held.map pceCells)] Tryz.func31 rfl Tryz.ntmps31 rfl (by simp only [List.mem_cons,List.not_mem_nil,or_false,forall_eq_or_imp,forall_eq]; exact ⟨rfl,hl_c_r_heldV⟩) ?_
 refine kQ ?_
 refine kEF [1,2] ⟨[(1,.p 0 0),(2,.p 1 0)],[⟨34,conL c (.slice Acrh c.r.held.length Ccrh)⟩,⟨34,conZ⟩],[],[slF (.slice Acrh c.r.held.length Ccrh) 2 (c.r.held.map pceCells)]⟩ ?_
 refine kQ ?_
 refine kCS 1 [1,2,6] [(1,.p 0 0),(2,.p 1 0),(6,.v (.agg (conL c (.slice Acrh c.r.held.length Ccrh)).toArray))] 70 [.agg (conL c (.slice Acrh c.r.held.length Ccrh)).toArray] (some 7) rfl (xc_r fun ww hw hf => yl19Copy_c c (.slice Acrh c.r.held.length Ccrh) ww (hf _ m0) (by assumption) w.heap.size hw) ?_
 rintro ⟨v1a,v1c⟩
 refine kEF [1,2,4] ⟨[(1,.p 0 0),(2,.p 1 0),(4,.p 2 0)],[⟨34,conL c (.slice Acrh c.r.held.length Ccrh)⟩,⟨34,conZ⟩,⟨34,conL c (.slice v1a c.r.held.length v1c)⟩],[],[ownF w.heap.size (.slice v1a c.r.held.length v1c) 2 (c.r.held.map pceCells),slF (.slice Acrh c.r.held.length Ccrh) 2 (c.r.held.map pceCells)]⟩ ?_
 refine kS ?_
 refine kS ?_
 refine xw_join ⟨[(1,.p 0 0),(2,.p 1 0),(4,.p 2 0),(15,.v (.bool ((!(conOk c)) || (c.state == 8))))],[⟨34,conL c (.slice Acrh c.r.held.length Ccrh)⟩,⟨34,conZ⟩,⟨34,conL c (.slice v1a c.r.held.length v1c)⟩],[],[ownF w.heap.size (.slice v1a c.r.held.length v1c) 2 (c.r.held.map pceCells),slF (.slice Acrh c.r.held.length Ccrh) 2 (c.r.held.map pceCells)]⟩ ?_ ?_
 refine kG ?_
 refine kCS 1 [1,2,4,8] [(1,.p 0 0),(2,.p 1 0),(4,.p 2 0),(8,.v (.agg (conL c (.slice Acrh c.r.held.length Ccrh)).toArray))] 23 [.agg (conL c (.slice Acrh c.r.held.length Ccrh)).toArray] (some 9) rfl (xc_b fun ww hf => ysConnOk_c c (.slice Acrh c.r.held.length Ccrh) ww (hf _ m1) (by assumption) (by omega)) ?_
 intro _
 refine kRS 2 [1,2,4,11] [(1,.p 0 0),(2,.p 1 0),(4,.p 2 0),(11,.v (.bool (!(conOk c))))] ?_
 refine kP 11 (!(conOk c)) (fun h2 => ?_) (fun h2 => ?_)
 have h2n := not_t h2
 refine kES [1,2,4,15] [(1,.p 0 0),(2,.p 1 0),(4,.p 2 0),(15,.v (.bool true))] ?_
 show Wk _ _
 try rw [h2]
 exact kF 3 0 [1,2,4,15]
 have h2n := not_f h2
 refine kES [1,2,4,15] [(1,.p 0 0),(2,.p 1 0),(4,.p 2 0),(15,.v (.bool (c.state == 8)))] ?_
 show Wk _ _
 try rw [h2]
 exact kF 3 0 [1,2,4,15]
 refine kC ((!(conOk c)) || (c.state == 8)) (fun h3 => ?_) (fun h3 => ?_)
 refine kQ ?_
 refine kHS 1 [2,16] [(2,.p 1 0),(16,.v (.agg (conL c (.slice v1a c.r.held.length v1c)).toArray))] rfl (hv_build (e := 36) (K := 13) (bytes := 104) [] rfl (by kernel_rfl) (by kernel_rfl) (by kernel_rfl) (by kernel_rfl) (by kernel_rfl) (rs := ([] : List Seg).map segCells) rfl) ?_
 intro g4
 refine kEF [2,3] ⟨[(2,.p 1 0),(3,.v (.slice (some ⟨g4,0,none⟩) 0 0))],[⟨34,conL c (.slice Acrh c.r.held.length Ccrh)⟩,⟨34,conL c (.slice v1a c.r.held.length v1c)⟩,⟨34,conL c (.slice v1a c.r.held.length v1c)⟩],[],[rowF w.heap.size 36 13 (.slice (some ⟨g4,0,none⟩) 0 0) (([] : List Seg).map segCells),ownF w.heap.size (.slice v1a c.r.held.length v1c) 2 (c.r.held.map pceCells),slF (.slice Acrh c.r.held.length Ccrh) 2 (c.r.held.map pceCells)]⟩ ?_
 refine kR ?_
 have hmod : abort c = (c,([] : List Seg)) := by first | rfl | (simp [abort,ackOf, *]; done) | grind [abort,ackOf]
 exact ⟨[.agg (conL c (.slice v1a c.r.held.length v1c)).toArray,.slice (some ⟨g4,0,none⟩) 0 0],by kernel_rfl,fun w' hb hf ha => by rw [hmod]; exact xo2 ((v1a,v1c),(((some ⟨g4,0,none⟩) : Option Addr),0)) rfl rfl (pO (hf _ m1) hB) (pR (hf _ m0) hB) (Apart.sub2 ha (i := 1) (j := 0) rfl rfl (by decide) rfl (fun b h => h) (fun b h => rowF_blk h)) hb⟩
 have h3l := or_l h3
 have h3ln := not_f h3l
 have h3r := or_r h3
 have h3rp := eqF h3r
 refine kK ?_
 refine kQ ?_
 refine kCS 1 [2,4,18] [(2,.p 1 0),(4,.p 2 0),(18,.v (.agg (conL c (.slice Acrh c.r.held.length Ccrh)).toArray))] 72 [.agg (conL c (.slice Acrh c.r.held.length Ccrh)).toArray] (some 19) rfl (xc_b fun ww hf => sAckOf_c c.t.ip c.t.port c.t.my c.state c.s.una c.s.data c.s.sent c.s.fin c.s.finSent c.s.done c.r.next c.r.data c.r.held (.slice Acrh c.r.held.length Ccrh) c.r.fin c.r.done c.window c.most c.o.mss c.o.scale c.o.sack c.o.stamp c.o.val c.o.echo c.timer c.tries ww (by omega)) ?_
 intro _
 refine kEF [2,4,5] ⟨[(2,.p 1 0),(4,.p 2 0),(5,.p 3 0)],[⟨34,conL c (.slice Acrh c.r.held.length Ccrh)⟩,⟨34,conZ⟩,⟨34,conL c (.slice v1a c.r.held.length v1c)⟩,⟨36,[.int .i64 c.t.my,.int .i64 c.t.port,.int .i64 (nextOf c.s),.int .i64 c.r.next,.int .i64 16,.int .i64 (windowOf c.r),.int .i64 0,.int .i64 (-1),.bool false,.bool false,.int .i64 0,.int .i64 0,.string (⟨#[]⟩ : ByteArray)]⟩],[],[ownF w.heap.size (.slice v1a c.r.held.length v1c) 2 (c.r.held.map pceCells),slF (.slice Acrh c.r.held.length Ccrh) 2 (c.r.held.map pceCells)]⟩ ?_
 refine kQ ?_
 refine kEF [2,4,5] ⟨[(2,.p 1 0),(4,.p 2 0),(5,.p 3 0)],[⟨34,conL c (.slice Acrh c.r.held.length Ccrh)⟩,⟨34,conZ⟩,⟨34,conL c (.slice v1a c.r.held.length v1c)⟩,⟨36,[.int .i64 c.t.my,.int .i64 c.t.port,.int .i64 (nextOf c.s),.int .i64 c.r.next,.int .i64 20,.int .i64 (windowOf c.r),.int .i64 0,.int .i64 (-1),.bool false,.bool false,.int .i64 0,.int .i64 0,.string (⟨#[]⟩ : ByteArray)]⟩],[],[ownF w.heap.size (.slice v1a c.r.held.length v1c) 2 (c.r.held.map pceCells),slF (.slice Acrh c.r.held.length Ccrh) 2 (c.r.held.map pceCells)]⟩ ?_
 refine kQ ?_
 refine kEF [2,4,5] ⟨[(2,.p 1 0),(4,.p 2 0),(5,.p 3 0)],[⟨34,conL c (.slice Acrh c.r.held.length Ccrh)⟩,⟨34,conZ⟩,⟨34,conL { c with state := 8 } (.slice v1a c.r.held.length v1c)⟩,⟨36,[.int .i64 c.t.my,.int .i64 c.t.port,.int .i64 (nextOf c.s),.int .i64 c.r.next,.int .i64 20,.int .i64 (windowOf c.r),.int .i64 0,.int .i64 (-1),.bool false,.bool false,.int .i64 0,.int .i64 0,.string (⟨#[]⟩ : ByteArray)]⟩],[],[ownF w.heap.size (.slice v1a c.r.held.length v1c) 2 (c.r.held.map pceCells),slF (.slice Acrh c.r.held.length Ccrh) 2 (c.r.held.map pceCells)]⟩ ?_
 refine kQ ?_
 refine kEF [2,4,5] ⟨[(2,.p 1 0),(4,.p 2 0),(5,.p 3 0)],[⟨34,conL c (.slice Acrh c.r.held.length Ccrh)⟩,⟨34,conZ⟩,⟨34,conL { c with state := 8,timer := 0 } (.slice v1a c.r.held.length v1c)⟩,⟨36,[.int .i64 c.t.my,.int .i64 c.t.port,.int .i64 (nextOf c.s),.int .i64 c.r.next,.int .i64 20,.int .i64 (windowOf c.r),.int .i64 0,.int .i64 (-1),.bool false,.bool false,.int .i64 0,.int .i64 0,.string (⟨#[]⟩ : ByteArray)]⟩],[],[ownF w.heap.size (.slice v1a c.r.held.length v1c) 2 (c.r.held.map pceCells),slF (.slice Acrh c.r.held.length Ccrh) 2 (c.r.held.map pceCells)]⟩ ?_
 refine kQ ?_
 refine kEF [2,4,5] ⟨[(2,.p 1 0),(4,.p 2 0),(5,.p 3 0)],[⟨34,conL c (.slice Acrh c.r.held.length Ccrh)⟩,⟨34,conZ⟩,⟨34,conL { c with state := 8,timer := 0,tries := 0 } (.slice v1a c.r.held.length v1c)⟩,⟨36,[.int .i64 c.t.my,.int .i64 c.t.port,.int .i64 (nextOf c.s),.int .i64 c.r.next,.int .i64 20,.int .i64 (windowOf c.r),.int .i64 0,.int .i64 (-1),.bool false,.bool false,.int .i64 0,.int .i64 0,.string (⟨#[]⟩ : ByteArray)]⟩],[],[ownF w.heap.size (.slice v1a c.r.held.length v1c) 2 (c.r.held.map pceCells),slF (.slice Acrh c.r.held.length Ccrh) 2 (c.r.held.map pceCells)]⟩ ?_
 refine kS ?_
 refine xw_joinE (α := Nat) (fun y => (fun (g6 : Nat) => (⟨[(2,.p 1 0),(3,.v (.slice (some ⟨g6,0,none⟩) 1 1))],[⟨34,conL c (.slice Acrh c.r.held.length Ccrh)⟩,⟨34,conL { c with state := 8,timer := 0,tries := 0 } (.slice v1a c.r.held.length v1c)⟩,⟨34,conL { c with state := 8,timer := 0,tries := 0 } (.slice v1a c.r.held.length v1c)⟩,⟨36,[.int .i64 c.t.my,.int .i64 c.t.port,.int .i64 (nextOf c.s),.int .i64 c.r.next,.int .i64 20,.int .i64 (windowOf c.r),.int .i64 0,.int .i64 (-1),.bool false,.bool false,.int .i64 0,.int .i64 0,.string (⟨#[]⟩ : ByteArray)]⟩],[],[rowF w.heap.size 36 13 (.slice (some ⟨g6,0,none⟩) 1 1) (([⟨c.t.my,c.t.port,nextOf c.s,c.r.next,20,windowOf c.r,⟨0,(-1),false,false,0,0⟩,(⟨#[]⟩ : ByteArray)⟩] : List Seg).map segCells),ownF w.heap.size (.slice v1a c.r.held.length v1c) 2 (c.r.held.map pceCells),slF (.slice Acrh c.r.held.length Ccrh) 2 (c.r.held.map pceCells)]⟩ : St)) y) ?_ ?_
 refine xe_region0 [true,false,true,true] (by kernel_rfl) (fun ρ σ => ?_)
 refine kTS [0,1] [28,27,2] 3 [(28,.v (.agg #[.int .i64 c.t.my,.int .i64 c.t.port,.int .i64 (nextOf c.s),.int .i64 c.r.next,.int .i64 20,.int .i64 (windowOf c.r),.int .i64 0,.int .i64 (-1),.bool false,.bool false,.int .i64 0,.int .i64 0,.string (⟨#[]⟩ : ByteArray)])),(27,.v (.agg (conL { c with state := 8,timer := 0,tries := 0 } (.slice v1a c.r.held.length v1c)).toArray)),(2,.p 1 0)] ?_
 refine kA [2,3] ⟨?_,?_⟩
 refine kSH 2 rfl (under_t (under_f rfl (under_t (under_t under_nil)))) (hv_build (e := 36) (K := 13) (bytes := 104) [.agg #[.int .i64 c.t.my,.int .i64 c.t.port,.int .i64 (nextOf c.s),.int .i64 c.r.next,.int .i64 20,.int .i64 (windowOf c.r),.int .i64 0,.int .i64 (-1),.bool false,.bool false,.int .i64 0,.int .i64 0,.string (⟨#[]⟩ : ByteArray)]] rfl (by kernel_rfl) (by kernel_rfl) (by kernel_rfl) (by kernel_rfl) (by kernel_rfl) (rs := ([⟨c.t.my,c.t.port,nextOf c.s,c.r.next,20,windowOf c.r,⟨0,(-1),false,false,0,0⟩,(⟨#[]⟩ : ByteArray)⟩] : List Seg).map segCells) rfl) ?_
 intro g6
 refine kA [3] ?_
 refine kSS 3 1 0 (conL { c with state := 8,timer := 0,tries := 0 } (.slice v1a c.r.held.length v1c)) rfl ?_
 refine kTS [4] [3,2] 0 [(3,.v (.slice (some ⟨g6,0,none⟩) 1 1)),(2,.p 1 0)] ?_
 refine kZ ?_
 exact ⟨(g6),kF 4 0 [2,3]⟩
 refine kSS 3 1 0 (conL { c with state := 8,timer := 0,tries := 0 } (.slice v1a c.r.held.length v1c)) rfl ?_
 refine kA [2] ?_
 refine kSH 2 rfl (under_t (under_f rfl (under_t (under_t under_nil)))) (hv_build (e := 36) (K := 13) (bytes := 104) [.agg #[.int .i64 c.t.my,.int .i64 c.t.port,.int .i64 (nextOf c.s),.int .i64 c.r.next,.int .i64 20,.int .i64 (windowOf c.r),.int .i64 0,.int .i64 (-1),.bool false,.bool false,.int .i64 0,.int .i64 0,.string (⟨#[]⟩ : ByteArray)]] rfl (by kernel_rfl) (by kernel_rfl) (by kernel_rfl) (by kernel_rfl) (by kernel_rfl) (rs := ([⟨c.t.my,c.t.port,nextOf c.s,c.r.next,20,windowOf c.r,⟨0,(-1),false,false,0,0⟩,(⟨#[]⟩ : ByteArray)⟩] : List Seg).map segCells) rfl) ?_
 intro g8
 refine kTS [4] [3,2] 0 [(3,.v (.slice (some ⟨g8,0,none⟩) 1 1)),(2,.p 1 0)] ?_
 refine kZ ?_
 exact ⟨(g8),kF 4 0 [2,3]⟩
 intro g6
 refine kR ?_
 have hmod : abort c = (({ c with state := 8,timer := 0,tries := 0 }),([⟨c.t.my,c.t.port,nextOf c.s,c.r.next,20,windowOf c.r,⟨0,(-1),false,false,0,0⟩,(⟨#[]⟩ : ByteArray)⟩] : List Seg)) := by first | rfl | (simp [abort,ackOf, *]; done) | grind [abort,ackOf]
 exact ⟨[.agg (conL { c with state := 8,timer := 0,tries := 0 } (.slice v1a c.r.held.length v1c)).toArray,.slice (some ⟨g6,0,none⟩) 1 1],by kernel_rfl,fun w' hb hf ha => by rw [hmod]; exact xo2 ((v1a,v1c),(((some ⟨g6,0,none⟩) : Option Addr),1)) rfl rfl (pO (hf _ m1) hB) (pR (hf _ m0) hB) (Apart.sub2 ha (i := 1) (j := 0) rfl rfl (by decide) rfl (fun b h => h) (fun b h => rowF_blk h)) hb⟩
theorem ysReadConn_c (c : Con) (c_r_heldV : Value) (n : Int) (w : World) (hl_c_r_heldV : Sl w c_r_heldV 2 (c.r.held.map pceCells)) (hkn : c.r.held.length ≤ 1048576)(hm : ∀ p ∈ c.r.held, p.text.size ≤ 1048576) (hsz : c.r.data.size ≤ 4611686018427387904) (B : Nat) (hB : B ≤ w.heap.size) : Calls Tryz.prog 20 #[.agg (conL c c_r_heldV).toArray, .int .i64 n] w fun e w' => XRs w w' e (α := (Option Addr × Nat) × (Option Addr × Nat)) (fun y => .tuple #[.agg (conL (readConn c n).1 (.slice y.1.1 ((readConn c n).1.r.held.length) y.1.2)).toArray, .string ((readConn c n).2.1), .slice y.2.1 ((readConn c n).2.2.length) y.2.2]) (fun y => [ownF B (.slice y.1.1 ((readConn c n).1.r.held.length) y.1.2) 2 ((readConn c n).1.r.held.map pceCells), ownF B (.slice y.2.1 ((readConn c n).2.2.length) y.2.2) 13 ((readConn c n).2.2.map segCells)]) := by
 obtain ⟨Acrh,Ccrh,hvcrh⟩ := hl_c_r_heldV.form
 rw [List.length_map] at hvcrh; subst hvcrh
 have hncrh := hl_c_r_heldV.len; rw [List.length_map] at hncrh
 have hqcrh := Sl.capLe hl_c_r_heldV
 have hwb := windowOf_bd (takenIn c.r n).1
 refine x_callsA (args := [.agg (conL c (.slice Acrh c.r.held.length Ccrh)).toArray,.int .i64 n]) (fn := Tryz.f20) [slF (.slice Acrh c.r.held.length Ccrh) 2 (c.r.held.map pceCells)] Tryz.func20 rfl Tryz.ntmps20 rfl (by simp only [List.mem_cons,List.not_mem_nil,or_false,forall_eq_or_imp,forall_eq]; exact ⟨rfl,hl_c_r_heldV⟩) ?_
 refine kQ ?_
 refine kEF [1,2,4] ⟨[(1,.v (.int .i64 n)),(2,.p 0 0),(4,.p 1 0)],[⟨34,conL c (.slice Acrh c.r.held.length Ccrh)⟩,⟨34,conZ⟩],[],[slF (.slice Acrh c.r.held.length Ccrh) 2 (c.r.held.map pceCells)]⟩ ?_
 refine kQ ?_
 refine kCS 1 [1,2,4,11] [(1,.v (.int .i64 n)),(2,.p 0 0),(4,.p 1 0),(11,.v (.agg (conL c (.slice Acrh c.r.held.length Ccrh)).toArray))] 70 [.agg (conL c (.slice Acrh c.r.held.length Ccrh)).toArray] (some 12) rfl (xc_r fun ww hw hf => yl19Copy_c c (.slice Acrh c.r.held.length Ccrh) ww (hf _ m0) (by assumption) w.heap.size hw) ?_
 rintro ⟨v1a,v1c⟩
 refine kEF [1,2,4,7] ⟨[(1,.v (.int .i64 n)),(2,.p 0 0),(4,.p 1 0),(7,.p 2 0)],[⟨34,conL c (.slice Acrh c.r.held.length Ccrh)⟩,⟨34,conZ⟩,⟨34,conL c (.slice v1a c.r.held.length v1c)⟩],[],[ownF w.heap.size (.slice v1a c.r.held.length v1c) 2 (c.r.held.map pceCells),slF (.slice Acrh c.r.held.length Ccrh) 2 (c.r.held.map pceCells)]⟩ ?_
 refine kQ ?_
 refine kHS 0 [1,2,4,7] [(1,.v (.int .i64 n)),(2,.p 0 0),(4,.p 1 0),(7,.p 2 0)] rfl (hv_build (e := 36) (K := 13) (bytes := 104) [] rfl (by kernel_rfl) (by kernel_rfl) (by kernel_rfl) (by kernel_rfl) (by kernel_rfl) (rs := ([] : List Seg).map segCells) rfl) ?_
 intro g2
 refine kES [1,2,4,7,8] [(1,.v (.int .i64 n)),(2,.p 0 0),(4,.p 1 0),(7,.p 2 0),(8,.v (.slice (some ⟨g2,0,none⟩) 0 0))] ?_
 refine kS ?_
 refine kQ ?_
 refine kCS 1 [1,2,4,7,8,14] [(1,.v (.int .i64 n)),(2,.p 0 0),(4,.p 1 0),(7,.p 2 0),(8,.v (.slice (some ⟨g2,0,none⟩) 0 0)),(14,.v (.agg (conL c (.slice Acrh c.r.held.length Ccrh)).toArray))] 23 [.agg (conL c (.slice Acrh c.r.held.length Ccrh)).toArray] (some 15) rfl (xc_b fun ww hf => ysConnOk_c c (.slice Acrh c.r.held.length Ccrh) ww (hf _ m2) (by assumption) (by omega)) ?_
 intro _
 refine kES [1,2,4,7,8,16] [(1,.v (.int .i64 n)),(2,.p 0 0),(4,.p 1 0),(7,.p 2 0),(8,.v (.slice (some ⟨g2,0,none⟩) 0 0)),(16,.v (.bool (!(conOk c))))] ?_
 refine kC (!(conOk c)) (fun h3 => ?_) (fun h3 => ?_)
 have h3n := not_t h3
 refine kQ ?_
 refine kEF [4,5,6] ⟨[(4,.p 1 0),(5,.v (.string (⟨#[]⟩ : ByteArray))),(6,.v (.slice (some ⟨g2,0,none⟩) 0 0))],[⟨34,conL c (.slice Acrh c.r.held.length Ccrh)⟩,⟨34,conL c (.slice v1a c.r.held.length v1c)⟩,⟨34,conL c (.slice v1a c.r.held.length v1c)⟩],[],[rowF w.heap.size 36 13 (.slice (some ⟨g2,0,none⟩) 0 0) (([] : List Seg).map segCells),ownF w.heap.size (.slice v1a c.r.held.length v1c) 2 (c.r.held.map pceCells),slF (.slice Acrh c.r.held.length Ccrh) 2 (c.r.held.map pceCells)]⟩ ?_
 refine kR ?_
 have hmod : readConn c n = (c,(⟨#[]⟩ : ByteArray),([] : List Seg)) := by first | rfl | (simp [readConn,ackOf, *]; done) | grind [readConn,ackOf]
 exact ⟨[.agg (conL c (.slice v1a c.r.held.length v1c)).toArray,.string (⟨#[]⟩ : ByteArray),.slice (some ⟨g2,0,none⟩) 0 0],by kernel_rfl,fun w' hb hf ha => by rw [hmod]; exact xo2 ((v1a,v1c),(((some ⟨g2,0,none⟩) : Option Addr),0)) rfl rfl (pO (hf _ m1) hB) (pR (hf _ m0) hB) (Apart.sub2 ha (i := 1) (j := 0) rfl rfl (by decide) rfl (fun b h => h) (fun b h => rowF_blk h)) hb⟩
 have h3n := not_f h3
 refine kK ?_
 refine kQ ?_
 refine kCS 3 [2,4,7,8,21,22] [(2,.p 0 0),(4,.p 1 0),(7,.p 2 0),(8,.v (.slice (some ⟨g2,0,none⟩) 0 0)),(21,.v (.agg (rcvL c.r (.slice Acrh c.r.held.length Ccrh)).toArray)),(22,.v (.int .i64 n))] 71 [.agg (rcvL c.r (.slice Acrh c.r.held.length Ccrh)).toArray,.int .i64 n] (some 23) rfl (xc_r fun ww hw hf => ysTakenIn_c c.r (.slice Acrh c.r.held.length Ccrh) n ww (hf _ m2) (by assumption) (by assumption) (by omega) w.heap.size hw) ?_
 rintro ⟨v4a,v4c⟩
 have htk5 : (takenIn c.r n).1.data.size ≤ _ := takenIn_sz _ _
 refine kEF [2,4,7,8,9,10] ⟨[(2,.p 0 0),(4,.p 1 0),(7,.p 2 0),(8,.v (.slice (some ⟨g2,0,none⟩) 0 0)),(9,.p 3 0),(10,.v (.string ((takenIn c.r n).2)))],[⟨34,conL c (.slice Acrh c.r.held.length Ccrh)⟩,⟨34,conZ⟩,⟨34,conL c (.slice v1a c.r.held.length v1c)⟩,⟨30,rcvL (takenIn c.r n).1 (.slice v4a ((takenIn c.r n).1.held.length) v4c)⟩],[],[rowF w.heap.size 108 2 (.slice v4a ((takenIn c.r n).1.held.length) v4c) ((takenIn c.r n).1.held.map pceCells),rowF w.heap.size 36 13 (.slice (some ⟨g2,0,none⟩) 0 0) (([] : List Seg).map segCells),ownF w.heap.size (.slice v1a c.r.held.length v1c) 2 (c.r.held.map pceCells),slF (.slice Acrh c.r.held.length Ccrh) 2 (c.r.held.map pceCells)]⟩ ?_
 refine kQ ?_
 refine kEF [2,4,7,8,9,10] ⟨[(2,.p 0 0),(4,.p 1 0),(7,.p 2 0),(8,.v (.slice (some ⟨g2,0,none⟩) 0 0)),(9,.p 3 0),(10,.v (.string ((takenIn c.r n).2)))],[⟨34,conL c (.slice Acrh c.r.held.length Ccrh)⟩,⟨34,conZ⟩,⟨34,conL { c with r := (takenIn c.r n).1 } (.slice v4a ((takenIn c.r n).1.held.length) v4c)⟩,⟨30,rcvL (takenIn c.r n).1 (.slice v4a ((takenIn c.r n).1.held.length) v4c)⟩],[],[rowF w.heap.size 108 2 (.slice v4a ((takenIn c.r n).1.held.length) v4c) ((takenIn c.r n).1.held.map pceCells),rowF w.heap.size 36 13 (.slice (some ⟨g2,0,none⟩) 0 0) (([] : List Seg).map segCells),ownF w.heap.size (.slice v1a c.r.held.length v1c) 2 (c.r.held.map pceCells),slF (.slice Acrh c.r.held.length Ccrh) 2 (c.r.held.map pceCells)]⟩ ?_
 refine kS ?_
 refine kS ?_
 refine xw_join ⟨[(4,.p 1 0),(7,.p 2 0),(8,.v (.slice (some ⟨g2,0,none⟩) 0 0)),(10,.v (.string ((takenIn c.r n).2))),(46,.v (.bool (((windowOf c.r) == 0) && ((decide ((windowOf ((takenIn c.r n).1)) > 0)) && ((c.state != 8) && (c.state != 7))))))],[⟨34,conL c (.slice Acrh c.r.held.length Ccrh)⟩,⟨34,conZ⟩,⟨34,conL { c with r := (takenIn c.r n).1 } (.slice v4a ((takenIn c.r n).1.held.length) v4c)⟩,⟨30,rcvL (takenIn c.r n).1 (.slice v4a ((takenIn c.r n).1.held.length) v4c)⟩],[],[rowF w.heap.size 108 2 (.slice v4a ((takenIn c.r n).1.held.length) v4c) ((takenIn c.r n).1.held.map pceCells),rowF w.heap.size 36 13 (.slice (some ⟨g2,0,none⟩) 0 0) (([] : List Seg).map segCells),ownF w.heap.size (.slice v1a c.r.held.length v1c) 2 (c.r.held.map pceCells),slF (.slice Acrh c.r.held.length Ccrh) 2 (c.r.held.map pceCells)]⟩ ?_ ?_
 refine kG ?_
 refine kCS 2 [2,4,7,8,9,10,29] [(2,.p 0 0),(4,.p 1 0),(7,.p 2 0),(8,.v (.slice (some ⟨g2,0,none⟩) 0 0)),(9,.p 3 0),(10,.v (.string ((takenIn c.r n).2))),(29,.v (.agg (rcvL c.r (.slice Acrh c.r.held.length Ccrh)).toArray))] 53 [.agg (rcvL c.r (.slice Acrh c.r.held.length Ccrh)).toArray] (some 30) rfl (xc_b fun ww hf => sWindowOf_c c.r.next c.r.data c.r.held (.slice Acrh c.r.held.length Ccrh) c.r.fin c.r.done ww (by omega)) ?_
 intro _
 refine kRS 2 [2,4,7,8,9,10,32] [(2,.p 0 0),(4,.p 1 0),(7,.p 2 0),(8,.v (.slice (some ⟨g2,0,none⟩) 0 0)),(9,.p 3 0),(10,.v (.string ((takenIn c.r n).2))),(32,.v (.bool ((windowOf c.r) == 0)))] ?_
 refine kP 32 ((windowOf c.r) == 0) (fun h6 => ?_) (fun h6 => ?_)
 have h6p := eqT h6
 refine kCS 1 [2,4,7,8,10,32,33] [(2,.p 0 0),(4,.p 1 0),(7,.p 2 0),(8,.v (.slice (some ⟨g2,0,none⟩) 0 0)),(10,.v (.string ((takenIn c.r n).2))),(32,.v (.bool true)),(33,.v (.agg (rcvL (takenIn c.r n).1 (.slice v4a ((takenIn c.r n).1.held.length) v4c)).toArray))] 53 [.agg (rcvL (takenIn c.r n).1 (.slice v4a ((takenIn c.r n).1.held.length) v4c)).toArray] (some 34) rfl (xc_b fun ww hf => sWindowOf_c ((takenIn c.r n).1.next) ((takenIn c.r n).1.data) ((takenIn c.r n).1.held) (.slice v4a ((takenIn c.r n).1.held.length) v4c) ((takenIn c.r n).1.fin) ((takenIn c.r n).1.done) ww (by omega)) ?_
 intro _
 refine kRS 3 [2,4,7,8,10,37] [(2,.p 0 0),(4,.p 1 0),(7,.p 2 0),(8,.v (.slice (some ⟨g2,0,none⟩) 0 0)),(10,.v (.string ((takenIn c.r n).2))),(37,.v (.bool (decide ((windowOf ((takenIn c.r n).1)) > 0))))] ?_
 refine kP 37 (decide ((windowOf ((takenIn c.r n).1)) > 0)) (fun h7 => ?_) (fun h7 => ?_)
 have h7p := of_decide_eq_true h7
 refine kRS 5 [2,4,7,8,10,42] [(2,.p 0 0),(4,.p 1 0),(7,.p 2 0),(8,.v (.slice (some ⟨g2,0,none⟩) 0 0)),(10,.v (.string ((takenIn c.r n).2))),(42,.v (.bool (c.state != 8)))] ?_
 refine kP 42 (c.state != 8) (fun h8 => ?_) (fun h8 => ?_)
 have h8p := neT h8
 refine kES [4,7,8,10,46] [(4,.p 1 0),(7,.p 2 0),(8,.v (.slice (some ⟨g2,0,none⟩) 0 0)),(10,.v (.string ((takenIn c.r n).2))),(46,.v (.bool (c.state != 7)))] ?_
 show Wk _ _
 try rw [h6]
 try rw [h7]
 try rw [h8]
 exact kF 4 0 [4,7,8,10,46]
 have h8p := neF h8
 refine kES [4,7,8,10,46] [(4,.p 1 0),(7,.p 2 0),(8,.v (.slice (some ⟨g2,0,none⟩) 0 0)),(10,.v (.string ((takenIn c.r n).2))),(46,.v (.bool false))] ?_
 show Wk _ _
 try rw [h6]
 try rw [h7]
 try rw [h8]
 exact kF 4 0 [4,7,8,10,46]
 have h7p := of_decide_eq_false h7
 refine kES [4,7,8,10,46] [(4,.p 1 0),(7,.p 2 0),(8,.v (.slice (some ⟨g2,0,none⟩) 0 0)),(10,.v (.string ((takenIn c.r n).2))),(46,.v (.bool false))] ?_
 show Wk _ _
 try rw [h6]
 try rw [h7]
 exact kF 4 0 [4,7,8,10,46]
 have h6p := eqF h6
 refine kES [4,7,8,10,46] [(4,.p 1 0),(7,.p 2 0),(8,.v (.slice (some ⟨g2,0,none⟩) 0 0)),(10,.v (.string ((takenIn c.r n).2))),(46,.v (.bool false))] ?_
 show Wk _ _
 try rw [h6]
 exact kF 4 0 [4,7,8,10,46]
 refine kC (((windowOf c.r) == 0) && ((decide ((windowOf ((takenIn c.r n).1)) > 0)) && ((c.state != 8) && (c.state != 7)))) (fun h9 => ?_) (fun h9 => ?_)
 have h9l := and_l h9
 have h9lp := eqT h9l
 have h9r := and_r h9
 have h9rl := and_l h9r
 have h9rr := and_r h9r
 have h9rrl := and_l h9rr
 have h9rrlp := neT h9rrl
 have h9rrr := and_r h9rr
 have h9rrrp := neT h9rrr
 refine kS ?_
 refine xw_joinE (α := Nat) (fun y => (fun (g11 : Nat) => (⟨[(4,.p 1 0),(5,.v (.string ((takenIn c.r n).2))),(6,.v (.slice (some ⟨g11,0,none⟩) 1 1))],[⟨34,conL c (.slice Acrh c.r.held.length Ccrh)⟩,⟨34,conL { c with r := (takenIn c.r n).1 } (.slice v4a ((takenIn c.r n).1.held.length) v4c)⟩,⟨34,conL { c with r := (takenIn c.r n).1 } (.slice v4a ((takenIn c.r n).1.held.length) v4c)⟩,⟨30,rcvL (takenIn c.r n).1 (.slice v4a ((takenIn c.r n).1.held.length) v4c)⟩],[],[rowF w.heap.size 36 13 (.slice (some ⟨g11,0,none⟩) 1 1) (([⟨c.t.my,c.t.port,nextOf c.s,(takenIn c.r n).1.next,16,windowOf ((takenIn c.r n).1),⟨0,(-1),false,false,0,0⟩,(⟨#[]⟩ : ByteArray)⟩] : List Seg).map segCells),rowF w.heap.size 108 2 (.slice v4a ((takenIn c.r n).1.held.length) v4c) ((takenIn c.r n).1.held.map pceCells),rowF w.heap.size 36 13 (.slice (some ⟨g2,0,none⟩) 0 0) (([] : List Seg).map segCells),ownF w.heap.size (.slice v1a c.r.held.length v1c) 2 (c.r.held.map pceCells),slF (.slice Acrh c.r.held.length Ccrh) 2 (c.r.held.map pceCells)]⟩ : St)) y) ?_ ?_
 refine xe_region0 [true,false,true,true] (by kernel_rfl) (fun ρ σ => ?_)
 refine kTS [0,1,2] [49,48,47,4] 5 [(49,.v (.agg (conL { c with r := (takenIn c.r n).1 } (.slice v4a ((takenIn c.r n).1.held.length) v4c)).toArray)),(48,.v (.string ((takenIn c.r n).2))),(47,.v (.agg (conL { c with r := (takenIn c.r n).1 } (.slice v4a ((takenIn c.r n).1.held.length) v4c)).toArray)),(4,.p 1 0)] ?_
 refine kA [3] ?_
 refine kSC 3 72 [.agg (conL { c with r := (takenIn c.r n).1 } (.slice v4a ((takenIn c.r n).1.held.length) v4c)).toArray] (some 50) rfl (xc_b fun ww hf => sAckOf_c c.t.ip c.t.port c.t.my c.state c.s.una c.s.data c.s.sent c.s.fin c.s.finSent c.s.done ((takenIn c.r n).1.next) ((takenIn c.r n).1.data) ((takenIn c.r n).1.held) (.slice v4a ((takenIn c.r n).1.held.length) v4c) ((takenIn c.r n).1.fin) ((takenIn c.r n).1.done) c.window c.most c.o.mss c.o.scale c.o.sack c.o.stamp c.o.val c.o.echo c.timer c.tries ww (by omega)) ?_
 intro _
 refine kA [4,5] ⟨?_,?_⟩
 refine kSH 4 rfl (under_t (under_f rfl (under_t (under_t under_nil)))) (hv_build (e := 36) (K := 13) (bytes := 104) [.agg #[.int .i64 c.t.my,.int .i64 c.t.port,.int .i64 (nextOf c.s),.int .i64 ((takenIn c.r n).1.next),.int .i64 16,.int .i64 (windowOf ((takenIn c.r n).1)),.int .i64 0,.int .i64 (-1),.bool false,.bool false,.int .i64 0,.int .i64 0,.string (⟨#[]⟩ : ByteArray)]] rfl (by kernel_rfl) (by kernel_rfl) (by kernel_rfl) (by kernel_rfl) (by kernel_rfl) (rs := ([⟨c.t.my,c.t.port,nextOf c.s,(takenIn c.r n).1.next,16,windowOf ((takenIn c.r n).1),⟨0,(-1),false,false,0,0⟩,(⟨#[]⟩ : ByteArray)⟩] : List Seg).map segCells) rfl) ?_
 intro g11
 refine kA [5] ?_
 refine kSS 5 1 0 (conL { c with r := (takenIn c.r n).1 } (.slice v4a ((takenIn c.r n).1.held.length) v4c)) rfl ?_
 refine kTS [6,7] [6,5,4] 0 [(6,.v (.slice (some ⟨g11,0,none⟩) 1 1)),(5,.v (.string ((takenIn c.r n).2))),(4,.p 1 0)] ?_
 refine kZ ?_
 exact ⟨(g11),kF 4 0 [4,5,6]⟩
 refine kSS 5 1 0 (conL { c with r := (takenIn c.r n).1 } (.slice v4a ((takenIn c.r n).1.held.length) v4c)) rfl ?_
 refine kTS [6] [5,50,4] 2 [(5,.v (.string ((takenIn c.r n).2))),(50,.v (.agg #[.int .i64 c.t.my,.int .i64 c.t.port,.int .i64 (nextOf c.s),.int .i64 ((takenIn c.r n).1.next),.int .i64 16,.int .i64 (windowOf ((takenIn c.r n).1)),.int .i64 0,.int .i64 (-1),.bool false,.bool false,.int .i64 0,.int .i64 0,.string (⟨#[]⟩ : ByteArray)])),(4,.p 1 0)] ?_
 refine kA [4] ?_
 refine kSH 4 rfl (under_t (under_f rfl (under_t (under_t under_nil)))) (hv_build (e := 36) (K := 13) (bytes := 104) [.agg #[.int .i64 c.t.my,.int .i64 c.t.port,.int .i64 (nextOf c.s),.int .i64 ((takenIn c.r n).1.next),.int .i64 16,.int .i64 (windowOf ((takenIn c.r n).1)),.int .i64 0,.int .i64 (-1),.bool false,.bool false,.int .i64 0,.int .i64 0,.string (⟨#[]⟩ : ByteArray)]] rfl (by kernel_rfl) (by kernel_rfl) (by kernel_rfl) (by kernel_rfl) (by kernel_rfl) (rs := ([⟨c.t.my,c.t.port,nextOf c.s,(takenIn c.r n).1.next,16,windowOf ((takenIn c.r n).1),⟨0,(-1),false,false,0,0⟩,(⟨#[]⟩ : ByteArray)⟩] : List Seg).map segCells) rfl) ?_
 intro g13
 refine kTS [7] [6,5,4] 0 [(6,.v (.slice (some ⟨g13,0,none⟩) 1 1)),(5,.v (.string ((takenIn c.r n).2))),(4,.p 1 0)] ?_
 refine kZ ?_
 exact ⟨(g13),kF 4 0 [4,5,6]⟩
 intro g11
 refine kR ?_
 have hmod : readConn c n = (({ c with r := (takenIn c.r n).1 }),((takenIn c.r n).2),([⟨c.t.my,c.t.port,nextOf c.s,(takenIn c.r n).1.next,16,windowOf ((takenIn c.r n).1),⟨0,(-1),false,false,0,0⟩,(⟨#[]⟩ : ByteArray)⟩] : List Seg)) := by first | rfl | (simp [readConn,ackOf, *]; done) | grind [readConn,ackOf]
 exact ⟨[.agg (conL { c with r := (takenIn c.r n).1 } (.slice v4a ((takenIn c.r n).1.held.length) v4c)).toArray,.string ((takenIn c.r n).2),.slice (some ⟨g11,0,none⟩) 1 1],by kernel_rfl,fun w' hb hf ha => by rw [hmod]; exact xo2 ((v4a,v4c),(((some ⟨g11,0,none⟩) : Option Addr),1)) rfl rfl (pR (hf _ m1) hB) (pR (hf _ m0) hB) (Apart.sub2 ha (i := 1) (j := 0) rfl rfl (by decide) rfl (fun b h => rowF_blk h) (fun b h => rowF_blk h)) hb⟩
 refine kK ?_
 refine kQ ?_
 refine kEF [4,5,6] ⟨[(4,.p 1 0),(5,.v (.string ((takenIn c.r n).2))),(6,.v (.slice (some ⟨g2,0,none⟩) 0 0))],[⟨34,conL c (.slice Acrh c.r.held.length Ccrh)⟩,⟨34,conL { c with r := (takenIn c.r n).1 } (.slice v4a ((takenIn c.r n).1.held.length) v4c)⟩,⟨34,conL { c with r := (takenIn c.r n).1 } (.slice v4a ((takenIn c.r n).1.held.length) v4c)⟩,⟨30,rcvL (takenIn c.r n).1 (.slice v4a ((takenIn c.r n).1.held.length) v4c)⟩],[],[rowF w.heap.size 108 2 (.slice v4a ((takenIn c.r n).1.held.length) v4c) ((takenIn c.r n).1.held.map pceCells),rowF w.heap.size 36 13 (.slice (some ⟨g2,0,none⟩) 0 0) (([] : List Seg).map segCells),ownF w.heap.size (.slice v1a c.r.held.length v1c) 2 (c.r.held.map pceCells),slF (.slice Acrh c.r.held.length Ccrh) 2 (c.r.held.map pceCells)]⟩ ?_
 refine kR ?_
 have hmod : readConn c n = (({ c with r := (takenIn c.r n).1 }),((takenIn c.r n).2),([] : List Seg)) := by first | rfl | (simp [readConn,ackOf, *]; done) | grind [readConn,ackOf]
 exact ⟨[.agg (conL { c with r := (takenIn c.r n).1 } (.slice v4a ((takenIn c.r n).1.held.length) v4c)).toArray,.string ((takenIn c.r n).2),.slice (some ⟨g2,0,none⟩) 0 0],by kernel_rfl,fun w' hb hf ha => by rw [hmod]; exact xo2 ((v4a,v4c),(((some ⟨g2,0,none⟩) : Option Addr),0)) rfl rfl (pR (hf _ m0) hB) (pR (hf _ m1) hB) (Apart.sub2 ha (i := 0) (j := 1) rfl rfl (by decide) rfl (fun b h => rowF_blk h) (fun b h => rowF_blk h)) hb⟩
theorem yiAbort_c (c : Con) (c_r_heldV : Value) (w : World) (hl_c_r_heldV : Sl w c_r_heldV 2 (c.r.held.map pceCells)) (hkn : c.r.held.length ≤ 1048576)(hm : ∀ p ∈ c.r.held, p.text.size ≤ 1048576) (hsz : c.r.data.size ≤ 4611686018427387904) (B : Nat) (hB : B ≤ w.heap.size) : Calls Tryz.prog 30 #[.agg (conL c c_r_heldV).toArray] w fun e w' => XRs w w' e (α := (Option Addr × Nat) × (Option Addr × Nat)) (fun y => .tuple #[.agg (conL (abort c).1 (.slice y.1.1 ((abort c).1.r.held.length) y.1.2)).toArray, .slice y.2.1 ((abort c).2.length) y.2.2]) (fun y => [ownF B (.slice y.1.1 ((abort c).1.r.held.length) y.1.2) 2 ((abort c).1.r.held.map pceCells), ownF B (.slice y.2.1 ((abort c).2.length) y.2.2) 13 ((abort c).2.map segCells)]) := by
 obtain ⟨Acrh,Ccrh,hvcrh⟩ := hl_c_r_heldV.form
 rw [List.length_map] at hvcrh; subst hvcrh
 have hncrh := hl_c_r_heldV.len; rw [List.length_map] at hncrh
 have hqcrh := Sl.capLe hl_c_r_heldV
 refine x_callsA (args := [.agg (conL c (.slice Acrh c.r.held.length Ccrh)).toArray]) (fn := Tryz.f30) [slF (.slice Acrh c.r.held.length Ccrh) 2 (c.r.held.map pceCells)] Tryz.func30 rfl Tryz.ntmps30 rfl (by simp only [List.mem_cons,List.not_mem_nil,or_false,forall_eq_or_imp,forall_eq]; exact ⟨rfl,hl_c_r_heldV⟩) ?_
 refine kQ ?_
 refine kEF [1,2] ⟨[(1,.p 0 0),(2,.p 1 0)],[⟨34,conL c (.slice Acrh c.r.held.length Ccrh)⟩,⟨34,conZ⟩],[],[slF (.slice Acrh c.r.held.length Ccrh) 2 (c.r.held.map pceCells)]⟩ ?_
 refine kQ ?_
 refine kCS 1 [1,2,6] [(1,.p 0 0),(2,.p 1 0),(6,.v (.agg (conL c (.slice Acrh c.r.held.length Ccrh)).toArray))] 67 [.agg (conL c (.slice Acrh c.r.held.length Ccrh)).toArray] (some 7) rfl (xc_r fun ww hw hf => ycloneConn_c c (.slice Acrh c.r.held.length Ccrh) ww (hf _ m0) (by assumption) w.heap.size hw) ?_
 rintro ⟨v1a,v1c⟩
 refine kEF [1,2,4] ⟨[(1,.p 0 0),(2,.p 1 0),(4,.p 2 0)],[⟨34,conL c (.slice Acrh c.r.held.length Ccrh)⟩,⟨34,conZ⟩,⟨34,conL c (.slice v1a c.r.held.length v1c)⟩],[],[ownF w.heap.size (.slice v1a c.r.held.length v1c) 2 (c.r.held.map pceCells),slF (.slice Acrh c.r.held.length Ccrh) 2 (c.r.held.map pceCells)]⟩ ?_
 refine kS ?_
 refine kS ?_
 refine xw_join ⟨[(1,.p 0 0),(2,.p 1 0),(4,.p 2 0),(15,.v (.bool ((!(conOk c)) || (c.state == 8))))],[⟨34,conL c (.slice Acrh c.r.held.length Ccrh)⟩,⟨34,conZ⟩,⟨34,conL c (.slice v1a c.r.held.length v1c)⟩],[],[ownF w.heap.size (.slice v1a c.r.held.length v1c) 2 (c.r.held.map pceCells),slF (.slice Acrh c.r.held.length Ccrh) 2 (c.r.held.map pceCells)]⟩ ?_ ?_
 refine kG ?_
 refine kCS 1 [1,2,4,8] [(1,.p 0 0),(2,.p 1 0),(4,.p 2 0),(8,.v (.agg (conL c (.slice Acrh c.r.held.length Ccrh)).toArray))] 24 [.agg (conL c (.slice Acrh c.r.held.length Ccrh)).toArray] (some 9) rfl (xc_b fun ww hf => yiConnOk_c c (.slice Acrh c.r.held.length Ccrh) ww (hf _ m1) (by assumption) (by omega)) ?_
 intro _
 refine kRS 2 [1,2,4,11] [(1,.p 0 0),(2,.p 1 0),(4,.p 2 0),(11,.v (.bool (!(conOk c))))] ?_
 refine kP 11 (!(conOk c)) (fun h2 => ?_) (fun h2 => ?_)
 have h2n := not_t h2
 refine kES [1,2,4,15] [(1,.p 0 0),(2,.p 1 0),(4,.p 2 0),(15,.v (.bool true))] ?_
 show Wk _ _
 try rw [h2]
 exact kF 3 0 [1,2,4,15]
 have h2n := not_f h2
 refine kES [1,2,4,15] [(1,.p 0 0),(2,.p 1 0),(4,.p 2 0),(15,.v (.bool (c.state == 8)))] ?_
 show Wk _ _
 try rw [h2]
 exact kF 3 0 [1,2,4,15]
 refine kC ((!(conOk c)) || (c.state == 8)) (fun h3 => ?_) (fun h3 => ?_)
 refine kQ ?_
 refine kEF [2,3] ⟨[(2,.p 1 0),(3,.v (.slice none 0 0))],[⟨34,conL c (.slice Acrh c.r.held.length Ccrh)⟩,⟨34,conL c (.slice v1a c.r.held.length v1c)⟩,⟨34,conL c (.slice v1a c.r.held.length v1c)⟩],[],[ownF w.heap.size (.slice v1a c.r.held.length v1c) 2 (c.r.held.map pceCells),slF (.slice Acrh c.r.held.length Ccrh) 2 (c.r.held.map pceCells)]⟩ ?_
 refine kR ?_
 have hmod : abort c = (c,[]) := by first | rfl | (simp [abort,ackOf, *]; done) | grind [abort,ackOf]
 exact ⟨[.agg (conL c (.slice v1a c.r.held.length v1c)).toArray,.slice none 0 0],by kernel_rfl,fun w' hb hf ha => by rw [hmod]; exact xo2 ((v1a,v1c),(none,0)) rfl rfl (pO (hf _ m0) hB) ⟨.inl ⟨rfl,_,rfl⟩,fun b hb => (hb.1 rfl).elim⟩ (apart_nil2 rfl) hb⟩
 have h3l := or_l h3
 have h3ln := not_f h3l
 have h3r := or_r h3
 have h3rp := eqF h3r
 refine kK ?_
 refine kQ ?_
 refine kCS 1 [2,4,17] [(2,.p 1 0),(4,.p 2 0),(17,.v (.agg (conL c (.slice Acrh c.r.held.length Ccrh)).toArray))] 69 [.agg (conL c (.slice Acrh c.r.held.length Ccrh)).toArray] (some 18) rfl (xc_b fun ww hf => iAckOf_c c.t.ip c.t.port c.t.my c.state c.s.una c.s.data c.s.sent c.s.fin c.s.finSent c.s.done c.r.next c.r.data c.r.held (.slice Acrh c.r.held.length Ccrh) c.r.fin c.r.done c.window c.most c.o.mss c.o.scale c.o.sack c.o.stamp c.o.val c.o.echo c.timer c.tries ww (by omega)) ?_
 intro _
 refine kEF [2,4,5] ⟨[(2,.p 1 0),(4,.p 2 0),(5,.p 3 0)],[⟨34,conL c (.slice Acrh c.r.held.length Ccrh)⟩,⟨34,conZ⟩,⟨34,conL c (.slice v1a c.r.held.length v1c)⟩,⟨36,[.int .i64 c.t.my,.int .i64 c.t.port,.int .i64 (nextOf c.s),.int .i64 c.r.next,.int .i64 16,.int .i64 (windowOf c.r),.int .i64 0,.int .i64 (-1),.bool false,.bool false,.int .i64 0,.int .i64 0,.string (⟨#[]⟩ : ByteArray)]⟩],[],[ownF w.heap.size (.slice v1a c.r.held.length v1c) 2 (c.r.held.map pceCells),slF (.slice Acrh c.r.held.length Ccrh) 2 (c.r.held.map pceCells)]⟩ ?_
 refine kQ ?_
 refine kEF [2,4,5] ⟨[(2,.p 1 0),(4,.p 2 0),(5,.p 3 0)],[⟨34,conL c (.slice Acrh c.r.held.length Ccrh)⟩,⟨34,conZ⟩,⟨34,conL c (.slice v1a c.r.held.length v1c)⟩,⟨36,[.int .i64 c.t.my,.int .i64 c.t.port,.int .i64 (nextOf c.s),.int .i64 c.r.next,.int .i64 20,.int .i64 (windowOf c.r),.int .i64 0,.int .i64 (-1),.bool false,.bool false,.int .i64 0,.int .i64 0,.string (⟨#[]⟩ : ByteArray)]⟩],[],[ownF w.heap.size (.slice v1a c.r.held.length v1c) 2 (c.r.held.map pceCells),slF (.slice Acrh c.r.held.length Ccrh) 2 (c.r.held.map pceCells)]⟩ ?_
 refine kQ ?_
 refine kEF [2,4,5] ⟨[(2,.p 1 0),(4,.p 2 0),(5,.p 3 0)],[⟨34,conL c (.slice Acrh c.r.held.length Ccrh)⟩,⟨34,conZ⟩,⟨34,conL { c with state := 8,timer := 0,tries := 0 } (.slice v1a c.r.held.length v1c)⟩,⟨36,[.int .i64 c.t.my,.int .i64 c.t.port,.int .i64 (nextOf c.s),.int .i64 c.r.next,.int .i64 20,.int .i64 (windowOf c.r),.int .i64 0,.int .i64 (-1),.bool false,.bool false,.int .i64 0,.int .i64 0,.string (⟨#[]⟩ : ByteArray)]⟩],[],[ownF w.heap.size (.slice v1a c.r.held.length v1c) 2 (c.r.held.map pceCells),slF (.slice Acrh c.r.held.length Ccrh) 2 (c.r.held.map pceCells)]⟩ ?_
 refine kS ?_
 refine xw_joinE (α := Nat) (fun y => (fun (g5 : Nat) => (⟨[(2,.p 1 0),(3,.v (.slice (some ⟨g5,0,none⟩) 1 1))],[⟨34,conL c (.slice Acrh c.r.held.length Ccrh)⟩,⟨34,conL { c with state := 8,timer := 0,tries := 0 } (.slice v1a c.r.held.length v1c)⟩,⟨34,conL { c with state := 8,timer := 0,tries := 0 } (.slice v1a c.r.held.length v1c)⟩,⟨36,[.int .i64 c.t.my,.int .i64 c.t.port,.int .i64 (nextOf c.s),.int .i64 c.r.next,.int .i64 20,.int .i64 (windowOf c.r),.int .i64 0,.int .i64 (-1),.bool false,.bool false,.int .i64 0,.int .i64 0,.string (⟨#[]⟩ : ByteArray)]⟩],[],[rowF w.heap.size 36 13 (.slice (some ⟨g5,0,none⟩) 1 1) (([⟨c.t.my,c.t.port,nextOf c.s,c.r.next,20,windowOf c.r,⟨0,(-1),false,false,0,0⟩,(⟨#[]⟩ : ByteArray)⟩] : List Seg).map segCells),ownF w.heap.size (.slice v1a c.r.held.length v1c) 2 (c.r.held.map pceCells),slF (.slice Acrh c.r.held.length Ccrh) 2 (c.r.held.map pceCells)]⟩ : St)) y) ?_ ?_
 refine xe_region0 [true,false,true,true] (by kernel_rfl) (fun ρ σ => ?_)
 refine kTS [0,1] [27,26,2] 3 [(27,.v (.agg #[.int .i64 c.t.my,.int .i64 c.t.port,.int .i64 (nextOf c.s),.int .i64 c.r.next,.int .i64 20,.int .i64 (windowOf c.r),.int .i64 0,.int .i64 (-1),.bool false,.bool false,.int .i64 0,.int .i64 0,.string (⟨#[]⟩ : ByteArray)])),(26,.v (.agg (conL { c with state := 8,timer := 0,tries := 0 } (.slice v1a c.r.held.length v1c)).toArray)),(2,.p 1 0)] ?_
 refine kA [2,3] ⟨?_,?_⟩
 refine kSH 2 rfl (under_t (under_f rfl (under_t (under_t under_nil)))) (hv_build (e := 36) (K := 13) (bytes := 104) [.agg #[.int .i64 c.t.my,.int .i64 c.t.port,.int .i64 (nextOf c.s),.int .i64 c.r.next,.int .i64 20,.int .i64 (windowOf c.r),.int .i64 0,.int .i64 (-1),.bool false,.bool false,.int .i64 0,.int .i64 0,.string (⟨#[]⟩ : ByteArray)]] rfl (by kernel_rfl) (by kernel_rfl) (by kernel_rfl) (by kernel_rfl) (by kernel_rfl) (rs := ([⟨c.t.my,c.t.port,nextOf c.s,c.r.next,20,windowOf c.r,⟨0,(-1),false,false,0,0⟩,(⟨#[]⟩ : ByteArray)⟩] : List Seg).map segCells) rfl) ?_
 intro g5
 refine kA [3] ?_
 refine kSS 3 1 0 (conL { c with state := 8,timer := 0,tries := 0 } (.slice v1a c.r.held.length v1c)) rfl ?_
 refine kTS [4] [3,2] 0 [(3,.v (.slice (some ⟨g5,0,none⟩) 1 1)),(2,.p 1 0)] ?_
 refine kZ ?_
 exact ⟨(g5),kF 4 0 [2,3]⟩
 refine kSS 3 1 0 (conL { c with state := 8,timer := 0,tries := 0 } (.slice v1a c.r.held.length v1c)) rfl ?_
 refine kA [2] ?_
 refine kSH 2 rfl (under_t (under_f rfl (under_t (under_t under_nil)))) (hv_build (e := 36) (K := 13) (bytes := 104) [.agg #[.int .i64 c.t.my,.int .i64 c.t.port,.int .i64 (nextOf c.s),.int .i64 c.r.next,.int .i64 20,.int .i64 (windowOf c.r),.int .i64 0,.int .i64 (-1),.bool false,.bool false,.int .i64 0,.int .i64 0,.string (⟨#[]⟩ : ByteArray)]] rfl (by kernel_rfl) (by kernel_rfl) (by kernel_rfl) (by kernel_rfl) (by kernel_rfl) (rs := ([⟨c.t.my,c.t.port,nextOf c.s,c.r.next,20,windowOf c.r,⟨0,(-1),false,false,0,0⟩,(⟨#[]⟩ : ByteArray)⟩] : List Seg).map segCells) rfl) ?_
 intro g7
 refine kTS [4] [3,2] 0 [(3,.v (.slice (some ⟨g7,0,none⟩) 1 1)),(2,.p 1 0)] ?_
 refine kZ ?_
 exact ⟨(g7),kF 4 0 [2,3]⟩
 intro g5
 refine kR ?_
 have hmod : abort c = (({ c with state := 8,timer := 0,tries := 0 }),([⟨c.t.my,c.t.port,nextOf c.s,c.r.next,20,windowOf c.r,⟨0,(-1),false,false,0,0⟩,(⟨#[]⟩ : ByteArray)⟩] : List Seg)) := by first | rfl | (simp [abort,ackOf, *]; done) | grind [abort,ackOf]
 exact ⟨[.agg (conL { c with state := 8,timer := 0,tries := 0 } (.slice v1a c.r.held.length v1c)).toArray,.slice (some ⟨g5,0,none⟩) 1 1],by kernel_rfl,fun w' hb hf ha => by rw [hmod]; exact xo2 ((v1a,v1c),(((some ⟨g5,0,none⟩) : Option Addr),1)) rfl rfl (pO (hf _ m1) hB) (pR (hf _ m0) hB) (Apart.sub2 ha (i := 1) (j := 0) rfl rfl (by decide) rfl (fun b h => h) (fun b h => rowF_blk h)) hb⟩
theorem ysNextChunk_c (s : Snd) (window : Int) (mss : Int) (w : World) (hwi : -9223372036854775808 ≤ window ∧ window ≤ 9223372036854775807) : Calls Tryz.prog 91 #[.agg (sndL s).toArray, .int .i64 window, .int .i64 mss] w fun e w' => e = .returned (.tuple #[.agg (chkL (nextChunk s window mss).1).toArray, .bool ((nextChunk s window mss).2)]) ∧ Below w.heap.size w w' := by
 refine x_calls (args := [.agg (sndL s).toArray,.int .i64 window,.int .i64 mss]) (fn := Tryz.f91) [] Tryz.func91 rfl Tryz.ntmps91 rfl (by simp) ?_
 refine kQ ?_
 refine kEF [1,2,3,6] ⟨[(1,.v (.int .i64 window)),(2,.v (.int .i64 mss)),(3,.p 0 0),(6,.p 1 0)],[⟨27,sndL s⟩,⟨89,chkL (⟨0,(⟨#[]⟩ : ByteArray),false⟩ : Chk)⟩],[],[]⟩ ?_
 refine kS ?_
 refine kQ ?_
 refine kCD 1 [1,2,3,6,11] [(11,.v (.agg (sndL s).toArray))] 75 [.agg (sndL s).toArray] (some 12) rfl (xc_b fun ww hf => sSenderOk_c s.una s.data s.sent s.fin s.finSent s.done ww ) ?_
 intro _
 refine kED [1,2,3,6,13] [(13,.v (.bool (!(senderOk s))))] ?_
 refine kC (!(senderOk s)) (fun h1 => ?_) (fun h1 => ?_)
 have hsn := not_t h1
 refine kQ ?_
 refine kOS 0 [6] [(6,.p 1 0)] (.agg (chkL (⟨0,(⟨#[]⟩ : ByteArray),false⟩ : Chk)).toArray) rfl (fun _ _ _ ww hr => act_build [] hr.1 rfl (by kernel_rfl) (by kernel_rfl) ww) ?_
 refine kED [6,7] [(7,.v (.bool false))] ?_
 refine kR ?_
 have hmod : nextChunk s window mss = ((⟨0,(⟨#[]⟩ : ByteArray),false⟩),false) := by first | rfl | (simp [nextChunk,zeroChk,chunkFin, *]; done) | (simp [nextChunk,zeroChk,chunkFin, *]; omega) | grind [nextChunk,zeroChk,chunkFin]
 exact ⟨[.agg (chkL (⟨0,(⟨#[]⟩ : ByteArray),false⟩ : Chk)).toArray,.bool false],by kernel_rfl,fun w' hb hf => by rw [hmod]; exact ⟨rfl,hb⟩⟩
 have h1b := senderOk_bd (s := s) (by simpa using h1)
 obtain ⟨h1b0,h1b1,h1b2,h1b3,h1b4,h1b5,h1b6,h1b7,h1b8,h1b9,h1b10⟩ := h1b
 have hsn := not_f h1
 obtain ⟨c0,c1,c2,c3,c4⟩ := chunkN_bd (window := window) (mss := mss) hsn
 refine kK ?_
 refine kS ?_
 refine xe_region [] (by kernel_rfl) (fun ρ σ => ?_)
 refine kTS [0,3] [18,15,2,3,6] 6 [(18,.v (.agg (sndL s).toArray)),(15,.v (.int .i64 window)),(2,.v (.int .i64 mss)),(3,.p 0 0),(6,.p 1 0)] ?_
 refine kA [1] ?_
 refine kSC 1 116 [.int .i64 window,.int .i64 1000000] (some 16) rfl (xc_s fun ww hf => l1Min_c window 1000000 ww ) ?_
 intro _
 refine kA [2] ?_
 refine kSC 2 97 [.int .i64 0,.int .i64 (min window 1000000)] (some 17) rfl (xc_s fun ww hf => l1Max_c 0 (min window 1000000) ww ) ?_
 intro _
 refine kA [4] ?_
 refine kSC 4 61 [.agg (sndL s).toArray] (some 19) rfl (xc_b fun ww hf => sFlown_c s.una s.data s.sent s.fin s.finSent s.done ww ) ?_
 intro _
 refine kTS [5] [20,2,3,6] 2 [(20,.v (.int .i64 (IntKind.i64.wrap ((max 0 (min window 1000000)) - (flown s))))),(2,.v (.int .i64 mss)),(3,.p 0 0),(6,.p 1 0)] ?_
 refine xe_eqS (t := [(20,.v (.int .i64 (IntKind.i64.wrap ((max 0 (min window 1000000)) - (flown s))))),(2,.v (.int .i64 mss)),(3,.p 0 0),(6,.p 1 0)]) (t' := [(20,.v (.int .i64 ((max 0 (min window 1000000)) - (flown s)))),(2,.v (.int .i64 mss)),(3,.p 0 0),(6,.p 1 0)]) (by rw [show (IntKind.i64.wrap ((max 0 (min window 1000000)) - (flown s))) = ((max 0 (min window 1000000)) - (flown s)) from wrap_id (by omega) (by omega)]) ?_
 refine kA [6] ?_
 refine kSC 6 97 [.int .i64 0,.int .i64 ((max 0 (min window 1000000)) - (flown s))] (some 21) rfl (xc_s fun ww hf => l1Max_c 0 ((max 0 (min window 1000000)) - (flown s)) ww ) ?_
 intro _
 refine xe_eqS (t := [(21,.v (.int .i64 (max 0 ((max 0 (min window 1000000)) - (flown s))))),(20,.v (.int .i64 ((max 0 (min window 1000000)) - (flown s)))),(2,.v (.int .i64 mss)),(3,.p 0 0),(6,.p 1 0)]) (t' := [(21,.v (.int .i64 (wnd s window))),(20,.v (.int .i64 ((max 0 (min window 1000000)) - (flown s)))),(2,.v (.int .i64 mss)),(3,.p 0 0),(6,.p 1 0)]) (by rw [show (max 0 ((max 0 (min window 1000000)) - (flown s))) = (wnd s window) from wnd_s]) ?_
 refine kTS [7] [8,2,3,6] 0 [(8,.v (.int .i64 (wnd s window))),(2,.v (.int .i64 mss)),(3,.p 0 0),(6,.p 1 0)] ?_
 refine kZ ?_
 refine kS ?_
 refine xe_region [] (by kernel_rfl) (fun ρ σ => ?_)
 refine kTS [0,1,3,4,5,6,7,8] [30,23,22,8,3,6] 4 [(30,.v (.int .i64 (IntKind.i64.wrap ((s.data.size : Int) - s.sent)))),(23,.v (.int .i64 (wnd s window))),(22,.v (.int .i64 mss)),(8,.v (.int .i64 (wnd s window))),(3,.p 0 0),(6,.p 1 0)] ?_
 refine xe_eqS (t := [(30,.v (.int .i64 (IntKind.i64.wrap ((s.data.size : Int) - s.sent)))),(23,.v (.int .i64 (wnd s window))),(22,.v (.int .i64 mss)),(8,.v (.int .i64 (wnd s window))),(3,.p 0 0),(6,.p 1 0)]) (t' := [(30,.v (.int .i64 ((s.data.size : Int) - s.sent))),(23,.v (.int .i64 (wnd s window))),(22,.v (.int .i64 mss)),(8,.v (.int .i64 (wnd s window))),(3,.p 0 0),(6,.p 1 0)]) (by rw [show (IntKind.i64.wrap ((s.data.size : Int) - s.sent)) = ((s.data.size : Int) - s.sent) from wrap_id (by omega) (by omega)]) ?_
 refine kA [2] ?_
 refine kSC 2 116 [.int .i64 mss,.int .i64 (wnd s window)] (some 24) rfl (xc_s fun ww hf => l1Min_c mss (wnd s window) ww ) ?_
 intro _
 refine kA [9] ?_
 refine kSC 9 116 [.int .i64 (min mss (wnd s window)),.int .i64 ((s.data.size : Int) - s.sent)] (some 31) rfl (xc_s fun ww hf => l1Min_c (min mss (wnd s window)) ((s.data.size : Int) - s.sent) ww ) ?_
 intro _
 refine kA [10] ?_
 refine kSC 10 97 [.int .i64 0,.int .i64 (min (min mss (wnd s window)) ((s.data.size : Int) - s.sent))] (some 32) rfl (xc_s fun ww hf => l1Max_c 0 (min (min mss (wnd s window)) ((s.data.size : Int) - s.sent)) ww ) ?_
 intro _
 refine xe_eqS (t := [(32,.v (.int .i64 (max 0 (min (min mss (wnd s window)) ((s.data.size : Int) - s.sent))))),(31,.v (.int .i64 (min (min mss (wnd s window)) ((s.data.size : Int) - s.sent)))),(24,.v (.int .i64 (min mss (wnd s window)))),(30,.v (.int .i64 ((s.data.size : Int) - s.sent))),(23,.v (.int .i64 (wnd s window))),(22,.v (.int .i64 mss)),(8,.v (.int .i64 (wnd s window))),(3,.p 0 0),(6,.p 1 0)]) (t' := [(32,.v (.int .i64 (chunkN s window mss))),(31,.v (.int .i64 (min (min mss (wnd s window)) ((s.data.size : Int) - s.sent)))),(24,.v (.int .i64 (min mss (wnd s window)))),(30,.v (.int .i64 ((s.data.size : Int) - s.sent))),(23,.v (.int .i64 (wnd s window))),(22,.v (.int .i64 mss)),(8,.v (.int .i64 (wnd s window))),(3,.p 0 0),(6,.p 1 0)]) (by rw [show (max 0 (min (min mss (wnd s window)) ((s.data.size : Int) - s.sent))) = (chunkN s window mss) from rfl]) ?_
 refine kTS [11] [9,8,3,6] 0 [(9,.v (.int .i64 (chunkN s window mss))),(8,.v (.int .i64 (wnd s window))),(3,.p 0 0),(6,.p 1 0)] ?_
 refine kZ ?_
 refine kS ?_
 refine xw_join ⟨[(3,.p 0 0),(6,.p 1 0),(8,.v (.int .i64 (wnd s window))),(9,.v (.int .i64 (chunkN s window mss))),(10,.p 2 0)],[⟨27,sndL s⟩,⟨89,chkL (⟨0,(⟨#[]⟩ : ByteArray),false⟩ : Chk)⟩,⟨89,chkL (⟨nextOf s,s.data.extract (s.sent).toNat (s.sent + (chunkN s window mss)).toNat,false⟩ : Chk)⟩],[],[]⟩ ?_ ?_
 refine xe_region [] (by kernel_rfl) (fun ρ σ => ?_)
 refine kTS [0,2,3,4,5,6,7,8,9] [42,38,36,33,9,8,3,6] 5 [(42,.v (.int .i64 (IntKind.i64.wrap (s.sent + (chunkN s window mss))))),(38,.v (.int .i64 s.sent)),(36,.v (.string s.data)),(33,.v (.agg (sndL s).toArray)),(9,.v (.int .i64 (chunkN s window mss))),(8,.v (.int .i64 (wnd s window))),(3,.p 0 0),(6,.p 1 0)] ?_
 refine xe_eqS (t := [(42,.v (.int .i64 (IntKind.i64.wrap (s.sent + (chunkN s window mss))))),(38,.v (.int .i64 s.sent)),(36,.v (.string s.data)),(33,.v (.agg (sndL s).toArray)),(9,.v (.int .i64 (chunkN s window mss))),(8,.v (.int .i64 (wnd s window))),(3,.p 0 0),(6,.p 1 0)]) (t' := [(42,.v (.int .i64 (s.sent + (chunkN s window mss)))),(38,.v (.int .i64 s.sent)),(36,.v (.string s.data)),(33,.v (.agg (sndL s).toArray)),(9,.v (.int .i64 (chunkN s window mss))),(8,.v (.int .i64 (wnd s window))),(3,.p 0 0),(6,.p 1 0)]) (by rw [show (IntKind.i64.wrap (s.sent + (chunkN s window mss))) = (s.sent + (chunkN s window mss)) from wrap_id (by omega) (by omega)]) ?_
 refine kX 10 (.string (s.data.extract (s.sent).toNat (s.sent + (chunkN s window mss)).toNat)) rfl (fun _ _ ww hA => act_slS (s.sent) (s.sent + (chunkN s window mss)) hA rfl (by kernel_rfl) rfl rfl rfl (by omega) (by omega) (by omega) ww) ?_
 refine kA [1,12] ⟨?_,?_⟩
 refine kSC 1 17 [.agg (sndL s).toArray] (some 34) rfl (xc_b fun ww hf => sNextOf_c s.una s.data s.sent s.fin s.finSent s.done ww ) ?_
 intro _
 refine kX 11 (.agg (chkL (⟨nextOf s,s.data.extract (s.sent).toNat (s.sent + (chunkN s window mss)).toNat,false⟩ : Chk)).toArray) rfl (fun _ _ ww hA => act_build [(0,.int .i64 (nextOf s)),(1,.string (s.data.extract (s.sent).toNat (s.sent + (chunkN s window mss)).toNat))] hA rfl (by kernel_rfl) (by kernel_rfl) ww) ?_
 refine kA [12] ?_
 refine xs_box 12 ⟨89,chkL (⟨0,(⟨#[]⟩ : ByteArray),false⟩ : Chk)⟩ _ rfl (by kernel_rfl) (by kernel_rfl) (by kernel_rfl) (by kernel_rfl) rfl ?_
 refine kA [13] ?_
 refine kSS 13 2 0 (chkL (⟨nextOf s,s.data.extract (s.sent).toNat (s.sent + (chunkN s window mss)).toNat,false⟩ : Chk)) rfl ?_
 refine kZ ?_
 exact kF 3 0 [3,6,8,9,10]
 refine xs_box 12 ⟨89,chkL (⟨0,(⟨#[]⟩ : ByteArray),false⟩ : Chk)⟩ _ rfl (by kernel_rfl) (by kernel_rfl) (by kernel_rfl) (by kernel_rfl) rfl ?_
 refine kA [1] ?_
 refine kSC 1 17 [.agg (sndL s).toArray] (some 34) rfl (xc_b fun ww hf => sNextOf_c s.una s.data s.sent s.fin s.finSent s.done ww ) ?_
 intro _
 refine kX 11 (.agg (chkL (⟨nextOf s,s.data.extract (s.sent).toNat (s.sent + (chunkN s window mss)).toNat,false⟩ : Chk)).toArray) rfl (fun _ _ ww hA => act_build [(0,.int .i64 (nextOf s)),(1,.string (s.data.extract (s.sent).toNat (s.sent + (chunkN s window mss)).toNat))] hA rfl (by kernel_rfl) (by kernel_rfl) ww) ?_
 refine kA [13] ?_
 refine kSS 13 2 0 (chkL (⟨nextOf s,s.data.extract (s.sent).toNat (s.sent + (chunkN s window mss)).toNat,false⟩ : Chk)) rfl ?_
 refine kZ ?_
 exact kF 3 0 [3,6,8,9,10]
 refine kQ ?_
 refine kRD 3 [3,6,8,9,10,47] [(47,.v (.bool s.fin))] ?_
 refine kP 47 (s.fin) (fun h2 => ?_) (fun h2 => ?_)
 refine kRD 5 [3,6,8,9,10,52] [(52,.v (.bool (!s.finSent)))] ?_
 refine kP 52 (!s.finSent) (fun h3 => ?_) (fun h3 => ?_)
 have h3n := not_t h3
 refine kRD 5 [3,6,8,9,10,57] [(57,.v (.bool (!s.done)))] ?_
 refine kP 57 (!s.done) (fun h4 => ?_) (fun h4 => ?_)
 have h4n := not_t h4
 refine kRS 10 [6,8,9,10,67] [(6,.p 1 0),(8,.v (.int .i64 (wnd s window))),(9,.v (.int .i64 (chunkN s window mss))),(10,.p 2 0),(67,.v (.bool ((IntKind.i64.wrap (s.sent + (chunkN s window mss))) == (s.data.size : Int))))] ?_
 refine xl_eqS (t' := [(6,.p 1 0),(8,.v (.int .i64 (wnd s window))),(9,.v (.int .i64 (chunkN s window mss))),(10,.p 2 0),(67,.v (.bool ((s.sent + (chunkN s window mss)) == (s.data.size : Int))))]) (by rw [show (IntKind.i64.wrap (s.sent + (chunkN s window mss))) = (s.sent + (chunkN s window mss)) from wrap_id (by omega) (by omega)]) ?_
 refine kP 67 ((s.sent + (chunkN s window mss)) == (s.data.size : Int)) (fun h5 => ?_) (fun h5 => ?_)
 have h5p := eqT h5
 refine kEU [6,9,10] [] 2 ⟨89,chkL (⟨nextOf s,s.data.extract (s.sent).toNat (s.sent + (chunkN s window mss)).toNat,decide ((wnd s window) > (chunkN s window mss))⟩ : Chk)⟩ ?_
 refine kS ?_
 refine kQ ?_
 refine kRD 3 [6,10,75] [(75,.v (.bool ((chunkN s window mss) == 0)))] ?_
 refine kP 75 ((chunkN s window mss) == 0) (fun h6 => ?_) (fun h6 => ?_)
 have h6p := eqT h6
 refine kED [6,10,79] [(79,.v (.bool (!(decide ((wnd s window) > (chunkN s window mss))))))] ?_
 refine kC (!(decide ((wnd s window) > (chunkN s window mss)))) (fun h7 => ?_) (fun h7 => ?_)
 have h7n := not_t h7
 refine kQ ?_
 refine kOS 0 [6] [(6,.p 1 0)] (.agg (chkL (⟨0,(⟨#[]⟩ : ByteArray),false⟩ : Chk)).toArray) rfl (fun _ _ _ ww hr => act_build [] hr.1 rfl (by kernel_rfl) (by kernel_rfl) ww) ?_
 refine kED [6,7] [(7,.v (.bool false))] ?_
 refine kR ?_
 have hmod : nextChunk s window mss = ((⟨0,(⟨#[]⟩ : ByteArray),false⟩),false) := by first | rfl | (simp [nextChunk,zeroChk,chunkFin, *]; done) | (simp [nextChunk,zeroChk,chunkFin, *]; omega) | grind [nextChunk,zeroChk,chunkFin]
 exact ⟨[.agg (chkL (⟨0,(⟨#[]⟩ : ByteArray),false⟩ : Chk)).toArray,.bool false],by kernel_rfl,fun w' hb hf => by rw [hmod]; exact ⟨rfl,hb⟩⟩
 have h7n := not_f h7
 refine kK ?_
 refine kQ ?_
 refine kEU [6,7] [(7,.v (.bool true))] 1 ⟨89,chkL (⟨nextOf s,s.data.extract (s.sent).toNat (s.sent + (chunkN s window mss)).toNat,decide ((wnd s window) > (chunkN s window mss))⟩ : Chk)⟩ ?_
 refine kR ?_
 have hmod : nextChunk s window mss = ((⟨nextOf s,s.data.extract (s.sent).toNat (s.sent + (chunkN s window mss)).toNat,decide ((wnd s window) > (chunkN s window mss))⟩),true) := by first | rfl | (simp [nextChunk,zeroChk,chunkFin, *]; done) | (simp [nextChunk,zeroChk,chunkFin, *]; omega) | grind [nextChunk,zeroChk,chunkFin]
 exact ⟨[.agg (chkL (⟨nextOf s,s.data.extract (s.sent).toNat (s.sent + (chunkN s window mss)).toNat,decide ((wnd s window) > (chunkN s window mss))⟩ : Chk)).toArray,.bool true],by kernel_rfl,fun w' hb hf => by rw [hmod]; exact ⟨rfl,hb⟩⟩
 have h6p := eqF h6
 refine kED [6,10,79] [(79,.v (.bool false))] ?_
 refine kN ?_
 refine kK ?_
 refine kQ ?_
 refine kEU [6,7] [(7,.v (.bool true))] 1 ⟨89,chkL (⟨nextOf s,s.data.extract (s.sent).toNat (s.sent + (chunkN s window mss)).toNat,decide ((wnd s window) > (chunkN s window mss))⟩ : Chk)⟩ ?_
 refine kR ?_
 have hmod : nextChunk s window mss = ((⟨nextOf s,s.data.extract (s.sent).toNat (s.sent + (chunkN s window mss)).toNat,decide ((wnd s window) > (chunkN s window mss))⟩),true) := by first | rfl | (simp [nextChunk,zeroChk,chunkFin, *]; done) | (simp [nextChunk,zeroChk,chunkFin, *]; omega) | grind [nextChunk,zeroChk,chunkFin]
 exact ⟨[.agg (chkL (⟨nextOf s,s.data.extract (s.sent).toNat (s.sent + (chunkN s window mss)).toNat,decide ((wnd s window) > (chunkN s window mss))⟩ : Chk)).toArray,.bool true],by kernel_rfl,fun w' hb hf => by rw [hmod]; exact ⟨rfl,hb⟩⟩
 have h5p := eqF h5
 refine kED [6,9,10] [] ?_
 refine kS ?_
 refine kQ ?_
 refine kRD 3 [6,10,75] [(75,.v (.bool ((chunkN s window mss) == 0)))] ?_
 refine kP 75 ((chunkN s window mss) == 0) (fun h8 => ?_) (fun h8 => ?_)
 have h8p := eqT h8
 refine kED [6,10,79] [(79,.v (.bool true))] ?_
 refine kT ?_
 refine kQ ?_
 refine kOS 0 [6] [(6,.p 1 0)] (.agg (chkL (⟨0,(⟨#[]⟩ : ByteArray),false⟩ : Chk)).toArray) rfl (fun _ _ _ ww hr => act_build [] hr.1 rfl (by kernel_rfl) (by kernel_rfl) ww) ?_
 refine kED [6,7] [(7,.v (.bool false))] ?_
 refine kR ?_
 have hmod : nextChunk s window mss = ((⟨0,(⟨#[]⟩ : ByteArray),false⟩),false) := by first | rfl | (simp [nextChunk,zeroChk,chunkFin, *]; done) | (simp [nextChunk,zeroChk,chunkFin, *]; omega) | grind [nextChunk,zeroChk,chunkFin]
 exact ⟨[.agg (chkL (⟨0,(⟨#[]⟩ : ByteArray),false⟩ : Chk)).toArray,.bool false],by kernel_rfl,fun w' hb hf => by rw [hmod]; exact ⟨rfl,hb⟩⟩
 have h8p := eqF h8
 refine kED [6,10,79] [(79,.v (.bool false))] ?_
 refine kN ?_
 refine kK ?_
 refine kQ ?_
 refine kEU [6,7] [(7,.v (.bool true))] 1 ⟨89,chkL (⟨nextOf s,s.data.extract (s.sent).toNat (s.sent + (chunkN s window mss)).toNat,false⟩ : Chk)⟩ ?_
 refine kR ?_
 have hmod : nextChunk s window mss = ((⟨nextOf s,s.data.extract (s.sent).toNat (s.sent + (chunkN s window mss)).toNat,false⟩),true) := by first | rfl | (simp [nextChunk,zeroChk,chunkFin, *]; done) | (simp [nextChunk,zeroChk,chunkFin, *]; omega) | grind [nextChunk,zeroChk,chunkFin]
 exact ⟨[.agg (chkL (⟨nextOf s,s.data.extract (s.sent).toNat (s.sent + (chunkN s window mss)).toNat,false⟩ : Chk)).toArray,.bool true],by kernel_rfl,fun w' hb hf => by rw [hmod]; exact ⟨rfl,hb⟩⟩
 have h4n := not_f h4
 refine kED [6,9,10] [] ?_
 refine kS ?_
 refine kQ ?_
 refine kRD 3 [6,10,75] [(75,.v (.bool ((chunkN s window mss) == 0)))] ?_
 refine kP 75 ((chunkN s window mss) == 0) (fun h9 => ?_) (fun h9 => ?_)
 have h9p := eqT h9
 refine kED [6,10,79] [(79,.v (.bool true))] ?_
 refine kT ?_
 refine kQ ?_
 refine kOS 0 [6] [(6,.p 1 0)] (.agg (chkL (⟨0,(⟨#[]⟩ : ByteArray),false⟩ : Chk)).toArray) rfl (fun _ _ _ ww hr => act_build [] hr.1 rfl (by kernel_rfl) (by kernel_rfl) ww) ?_
 refine kED [6,7] [(7,.v (.bool false))] ?_
 refine kR ?_
 have hmod : nextChunk s window mss = ((⟨0,(⟨#[]⟩ : ByteArray),false⟩),false) := by first | rfl | (simp [nextChunk,zeroChk,chunkFin, *]; done) | (simp [nextChunk,zeroChk,chunkFin, *]; omega) | grind [nextChunk,zeroChk,chunkFin]
 exact ⟨[.agg (chkL (⟨0,(⟨#[]⟩ : ByteArray),false⟩ : Chk)).toArray,.bool false],by kernel_rfl,fun w' hb hf => by rw [hmod]; exact ⟨rfl,hb⟩⟩
 have h9p := eqF h9
 refine kED [6,10,79] [(79,.v (.bool false))] ?_
 refine kN ?_
 refine kK ?_
 refine kQ ?_
 refine kEU [6,7] [(7,.v (.bool true))] 1 ⟨89,chkL (⟨nextOf s,s.data.extract (s.sent).toNat (s.sent + (chunkN s window mss)).toNat,false⟩ : Chk)⟩ ?_
 refine kR ?_
 have hmod : nextChunk s window mss = ((⟨nextOf s,s.data.extract (s.sent).toNat (s.sent + (chunkN s window mss)).toNat,false⟩),true) := by first | rfl | (simp [nextChunk,zeroChk,chunkFin, *]; done) | (simp [nextChunk,zeroChk,chunkFin, *]; omega) | grind [nextChunk,zeroChk,chunkFin]
 exact ⟨[.agg (chkL (⟨nextOf s,s.data.extract (s.sent).toNat (s.sent + (chunkN s window mss)).toNat,false⟩ : Chk)).toArray,.bool true],by kernel_rfl,fun w' hb hf => by rw [hmod]; exact ⟨rfl,hb⟩⟩
 have h3n := not_f h3
 refine kED [6,9,10] [] ?_
 refine kS ?_
 refine kQ ?_
 refine kRD 3 [6,10,75] [(75,.v (.bool ((chunkN s window mss) == 0)))] ?_
 refine kP 75 ((chunkN s window mss) == 0) (fun h10 => ?_) (fun h10 => ?_)
 have h10p := eqT h10
 refine kED [6,10,79] [(79,.v (.bool true))] ?_
 refine kT ?_
 refine kQ ?_
 refine kOS 0 [6] [(6,.p 1 0)] (.agg (chkL (⟨0,(⟨#[]⟩ : ByteArray),false⟩ : Chk)).toArray) rfl (fun _ _ _ ww hr => act_build [] hr.1 rfl (by kernel_rfl) (by kernel_rfl) ww) ?_
 refine kED [6,7] [(7,.v (.bool false))] ?_
 refine kR ?_
 have hmod : nextChunk s window mss = ((⟨0,(⟨#[]⟩ : ByteArray),false⟩),false) := by first | rfl | (simp [nextChunk,zeroChk,chunkFin, *]; done) | (simp [nextChunk,zeroChk,chunkFin, *]; omega) | grind [nextChunk,zeroChk,chunkFin]
 exact ⟨[.agg (chkL (⟨0,(⟨#[]⟩ : ByteArray),false⟩ : Chk)).toArray,.bool false],by kernel_rfl,fun w' hb hf => by rw [hmod]; exact ⟨rfl,hb⟩⟩
 have h10p := eqF h10
 refine kED [6,10,79] [(79,.v (.bool false))] ?_
 refine kN ?_
 refine kK ?_
 refine kQ ?_
 refine kEU [6,7] [(7,.v (.bool true))] 1 ⟨89,chkL (⟨nextOf s,s.data.extract (s.sent).toNat (s.sent + (chunkN s window mss)).toNat,false⟩ : Chk)⟩ ?_
 refine kR ?_
 have hmod : nextChunk s window mss = ((⟨nextOf s,s.data.extract (s.sent).toNat (s.sent + (chunkN s window mss)).toNat,false⟩),true) := by first | rfl | (simp [nextChunk,zeroChk,chunkFin, *]; done) | (simp [nextChunk,zeroChk,chunkFin, *]; omega) | grind [nextChunk,zeroChk,chunkFin]
 exact ⟨[.agg (chkL (⟨nextOf s,s.data.extract (s.sent).toNat (s.sent + (chunkN s window mss)).toNat,false⟩ : Chk)).toArray,.bool true],by kernel_rfl,fun w' hb hf => by rw [hmod]; exact ⟨rfl,hb⟩⟩
 refine kED [6,9,10] [] ?_
 refine kS ?_
 refine kQ ?_
 refine kRD 3 [6,10,75] [(75,.v (.bool ((chunkN s window mss) == 0)))] ?_
 refine kP 75 ((chunkN s window mss) == 0) (fun h11 => ?_) (fun h11 => ?_)
 have h11p := eqT h11
 refine kED [6,10,79] [(79,.v (.bool true))] ?_
 refine kT ?_
 refine kQ ?_
 refine kOS 0 [6] [(6,.p 1 0)] (.agg (chkL (⟨0,(⟨#[]⟩ : ByteArray),false⟩ : Chk)).toArray) rfl (fun _ _ _ ww hr => act_build [] hr.1 rfl (by kernel_rfl) (by kernel_rfl) ww) ?_
 refine kED [6,7] [(7,.v (.bool false))] ?_
 refine kR ?_
 have hmod : nextChunk s window mss = ((⟨0,(⟨#[]⟩ : ByteArray),false⟩),false) := by first | rfl | (simp [nextChunk,zeroChk,chunkFin, *]; done) | (simp [nextChunk,zeroChk,chunkFin, *]; omega) | grind [nextChunk,zeroChk,chunkFin]
 exact ⟨[.agg (chkL (⟨0,(⟨#[]⟩ : ByteArray),false⟩ : Chk)).toArray,.bool false],by kernel_rfl,fun w' hb hf => by rw [hmod]; exact ⟨rfl,hb⟩⟩
 have h11p := eqF h11
 refine kED [6,10,79] [(79,.v (.bool false))] ?_
 refine kN ?_
 refine kK ?_
 refine kQ ?_
 refine kEU [6,7] [(7,.v (.bool true))] 1 ⟨89,chkL (⟨nextOf s,s.data.extract (s.sent).toNat (s.sent + (chunkN s window mss)).toNat,false⟩ : Chk)⟩ ?_
 refine kR ?_
 have hmod : nextChunk s window mss = ((⟨nextOf s,s.data.extract (s.sent).toNat (s.sent + (chunkN s window mss)).toNat,false⟩),true) := by first | rfl | (simp [nextChunk,zeroChk,chunkFin, *]; done) | (simp [nextChunk,zeroChk,chunkFin, *]; omega) | grind [nextChunk,zeroChk,chunkFin]
 exact ⟨[.agg (chkL (⟨nextOf s,s.data.extract (s.sent).toNat (s.sent + (chunkN s window mss)).toNat,false⟩ : Chk)).toArray,.bool true],by kernel_rfl,fun w' hb hf => by rw [hmod]; exact ⟨rfl,hb⟩⟩
theorem ysSentOff_c (s : Snd) (c : Chk) (w : World)  : Calls Tryz.prog 93 #[.agg (sndL s).toArray, .agg (chkL c).toArray] w fun e w' => e = .returned (.agg (sndL (sentOff s c)).toArray) ∧ Below w.heap.size w w' := by
 have hsf := sentS_fin s c
 refine x_calls (args := [.agg (sndL s).toArray,.agg (chkL c).toArray]) (fn := Tryz.f93) [] Tryz.func93 rfl Tryz.ntmps93 rfl (by simp) ?_
 refine kQ ?_
 refine kEF [2,3,4] ⟨[(2,.p 0 0),(3,.p 1 0),(4,.p 2 0)],[⟨27,sndL s⟩,⟨89,chkL c⟩,⟨27,sndZ⟩],[],[]⟩ ?_
 refine kQ ?_
 refine kEF [2,3,4,5] ⟨[(2,.p 0 0),(3,.p 1 0),(4,.p 2 0),(5,.p 3 0)],[⟨27,sndL s⟩,⟨89,chkL c⟩,⟨27,sndZ⟩,⟨27,sndL s⟩],[],[]⟩ ?_
 refine kQ ?_
 refine kEF [2,3,4,5] ⟨[(2,.p 0 0),(3,.p 1 0),(4,.p 2 0),(5,.p 3 0)],[⟨27,sndL s⟩,⟨89,chkL c⟩,⟨27,sndZ⟩,⟨27,sndL { s with sent := IntKind.i64.wrap (s.sent + (c.text.size : Int)) }⟩],[],[]⟩ ?_
 refine kS ?_
 refine xw_join ⟨[(2,.p 0 0),(3,.p 1 0),(4,.p 2 0),(5,.p 3 0)],[⟨27,sndL s⟩,⟨89,chkL c⟩,⟨27,sndZ⟩,⟨27,sndL { s with sent := IntKind.i64.wrap (s.sent + (c.text.size : Int)),finSent := s.finSent || c.fin }⟩],[],[]⟩ ?_ ?_
 refine kG ?_
 refine kRS 3 [2,3,4,5,16] [(2,.p 0 0),(3,.p 1 0),(4,.p 2 0),(5,.p 3 0),(16,.v (.bool s.finSent))] ?_
 refine kP 16 (s.finSent) (fun h1 => ?_) (fun h1 => ?_)
 refine kEF [2,3,4,5] ⟨[(2,.p 0 0),(3,.p 1 0),(4,.p 2 0),(5,.p 3 0)],[⟨27,sndL s⟩,⟨89,chkL c⟩,⟨27,sndZ⟩,⟨27,sndL { s with sent := IntKind.i64.wrap (s.sent + (c.text.size : Int)),finSent := true }⟩],[],[]⟩ ?_
 show Wk _ _
 try rw [h1]
 exact kF 4 0 [2,3,4,5]
 refine kEF [2,3,4,5] ⟨[(2,.p 0 0),(3,.p 1 0),(4,.p 2 0),(5,.p 3 0)],[⟨27,sndL s⟩,⟨89,chkL c⟩,⟨27,sndZ⟩,⟨27,sndL { s with sent := IntKind.i64.wrap (s.sent + (c.text.size : Int)),finSent := c.fin }⟩],[],[]⟩ ?_
 show Wk _ _
 try rw [h1]
 exact kF 4 0 [2,3,4,5]
 refine kS ?_
 refine kS ?_
 refine xw_join ⟨[(2,.p 0 0),(4,.p 2 0),(5,.p 3 0),(36,.v (.bool ((!(senderOk s)) || ((!(senderOk ({ s with sent := IntKind.i64.wrap (s.sent + (c.text.size : Int)),finSent := s.finSent || c.fin }))) || (c.fin && s.done)))))],[⟨27,sndL s⟩,⟨89,chkL c⟩,⟨27,sndZ⟩,⟨27,sndL { s with sent := IntKind.i64.wrap (s.sent + (c.text.size : Int)),finSent := s.finSent || c.fin }⟩],[],[]⟩ ?_ ?_
 refine kG ?_
 refine kCS 1 [2,3,4,5,21] [(2,.p 0 0),(3,.p 1 0),(4,.p 2 0),(5,.p 3 0),(21,.v (.agg (sndL s).toArray))] 75 [.agg (sndL s).toArray] (some 22) rfl (xc_b fun ww hf => sSenderOk_c s.una s.data s.sent s.fin s.finSent s.done ww ) ?_
 intro _
 refine kRS 2 [2,3,4,5,24] [(2,.p 0 0),(3,.p 1 0),(4,.p 2 0),(5,.p 3 0),(24,.v (.bool (!(senderOk s))))] ?_
 refine kP 24 (!(senderOk s)) (fun h2 => ?_) (fun h2 => ?_)
 have h2n := not_t h2
 refine kES [2,4,5,36] [(2,.p 0 0),(4,.p 2 0),(5,.p 3 0),(36,.v (.bool true))] ?_
 show Wk _ _
 try rw [h2]
 exact kF 4 0 [2,4,5,36]
 have h2n := not_f h2
 have h2nb := senderOk_bd (s := s) (by simpa using h2n)
 obtain ⟨h2nb0,h2nb1,h2nb2,h2nb3,h2nb4,h2nb5,h2nb6,h2nb7,h2nb8,h2nb9,h2nb10⟩ := h2nb
 refine kCS 1 [2,3,4,5,24,25] [(2,.p 0 0),(3,.p 1 0),(4,.p 2 0),(5,.p 3 0),(24,.v (.bool false)),(25,.v (.agg (sndL { s with sent := IntKind.i64.wrap (s.sent + (c.text.size : Int)),finSent := s.finSent || c.fin }).toArray))] 75 [.agg (sndL { s with sent := IntKind.i64.wrap (s.sent + (c.text.size : Int)),finSent := s.finSent || c.fin }).toArray] (some 26) rfl (xc_b fun ww hf => sSenderOk_c s.una s.data (IntKind.i64.wrap (s.sent + (c.text.size : Int))) s.fin (s.finSent || c.fin) s.done ww ) ?_
 intro _
 refine kRS 3 [2,3,4,5,29] [(2,.p 0 0),(3,.p 1 0),(4,.p 2 0),(5,.p 3 0),(29,.v (.bool (!(senderOk ({ s with sent := IntKind.i64.wrap (s.sent + (c.text.size : Int)),finSent := s.finSent || c.fin })))))] ?_
 refine kP 29 (!(senderOk ({ s with sent := IntKind.i64.wrap (s.sent + (c.text.size : Int)),finSent := s.finSent || c.fin }))) (fun h3 => ?_) (fun h3 => ?_)
 have h3n := not_t h3
 refine kES [2,4,5,36] [(2,.p 0 0),(4,.p 2 0),(5,.p 3 0),(36,.v (.bool true))] ?_
 show Wk _ _
 try rw [h2]
 try rw [h3]
 exact kF 4 0 [2,4,5,36]
 have h3n := not_f h3
 have h3nb := senderOk_bd (s := ({ s with sent := IntKind.i64.wrap (s.sent + (c.text.size : Int)),finSent := s.finSent || c.fin })) (by simpa using h3n)
 obtain ⟨h3nb0,h3nb1,h3nb2,h3nb3,h3nb4,h3nb5,h3nb6,h3nb7,h3nb8,h3nb9,h3nb10⟩ := h3nb
 refine kRS 3 [2,4,5,29,32] [(2,.p 0 0),(4,.p 2 0),(5,.p 3 0),(29,.v (.bool false)),(32,.v (.bool c.fin))] ?_
 refine kP 32 (c.fin) (fun h4 => ?_) (fun h4 => ?_)
 refine kES [2,4,5,36] [(2,.p 0 0),(4,.p 2 0),(5,.p 3 0),(36,.v (.bool s.done))] ?_
 show Wk _ _
 try rw [h2]
 try rw [h3]
 try rw [h4]
 exact kF 4 0 [2,4,5,36]
 refine kES [2,4,5,36] [(2,.p 0 0),(4,.p 2 0),(5,.p 3 0),(36,.v (.bool false))] ?_
 show Wk _ _
 try rw [h2]
 try rw [h3]
 try rw [h4]
 exact kF 4 0 [2,4,5,36]
 refine kC ((!(senderOk s)) || ((!(senderOk ({ s with sent := IntKind.i64.wrap (s.sent + (c.text.size : Int)),finSent := s.finSent || c.fin }))) || (c.fin && s.done))) (fun h5 => ?_) (fun h5 => ?_)
 refine kQ ?_
 refine kEF [4] ⟨[(4,.p 2 0)],[⟨27,sndL s⟩,⟨89,chkL c⟩,⟨27,sndL s⟩,⟨27,sndL { s with sent := IntKind.i64.wrap (s.sent + (c.text.size : Int)),finSent := s.finSent || c.fin }⟩],[],[]⟩ ?_
 refine kR ?_
 have hmod : sentOff s c = s := by first | rfl | (simp [sentOff,sentS, *]; done) | grind [sentOff,sentS]
 exact ⟨[.agg (sndL s).toArray],by kernel_rfl,fun w' hb hf => by rw [hmod]; exact ⟨rfl,hb⟩⟩
 have h5l := or_l h5
 have h5ln := not_f h5l
 have h5lnb := senderOk_bd (s := s) (by simpa using h5ln)
 obtain ⟨h5lnb0,h5lnb1,h5lnb2,h5lnb3,h5lnb4,h5lnb5,h5lnb6,h5lnb7,h5lnb8,h5lnb9,h5lnb10⟩ := h5lnb
 have h5r := or_r h5
 have h5rl := or_l h5r
 have h5rln := not_f h5rl
 have h5rlnb := senderOk_bd (s := ({ s with sent := IntKind.i64.wrap (s.sent + (c.text.size : Int)),finSent := s.finSent || c.fin })) (by simpa using h5rln)
 obtain ⟨h5rlnb0,h5rlnb1,h5rlnb2,h5rlnb3,h5rlnb4,h5rlnb5,h5rlnb6,h5rlnb7,h5rlnb8,h5rlnb9,h5rlnb10⟩ := h5rlnb
 have h5rr := or_r h5r
 refine kK ?_
 refine kQ ?_
 refine kEF [4] ⟨[(4,.p 2 0)],[⟨27,sndL s⟩,⟨89,chkL c⟩,⟨27,sndL { s with sent := IntKind.i64.wrap (s.sent + (c.text.size : Int)),finSent := s.finSent || c.fin }⟩,⟨27,sndL { s with sent := IntKind.i64.wrap (s.sent + (c.text.size : Int)),finSent := s.finSent || c.fin }⟩],[],[]⟩ ?_
 refine kR ?_
 have hmod : sentOff s c = ({ s with sent := IntKind.i64.wrap (s.sent + (c.text.size : Int)),finSent := s.finSent || c.fin }) := by first | rfl | (simp [sentOff,sentS, *]; done) | grind [sentOff,sentS]
 exact ⟨[.agg (sndL { s with sent := IntKind.i64.wrap (s.sent + (c.text.size : Int)),finSent := s.finSent || c.fin }).toArray],by kernel_rfl,fun w' hb hf => by rw [hmod]; exact ⟨rfl,hb⟩⟩
theorem ysQueued_c (s : Snd) (text : ByteArray) (w : World) (hts : text.size ≤ 4611686018427387904) : Calls Tryz.prog 87 #[.agg (sndL s).toArray, .string text] w fun e w' => e = .returned (.tuple #[.agg (sndL (queued s text).1).toArray, .int .i64 ((queued s text).2)]) ∧ Below w.heap.size w w' := by
 refine x_calls (args := [.agg (sndL s).toArray,.string text]) (fn := Tryz.f87) [] Tryz.func87 rfl Tryz.ntmps87 rfl (by simp) ?_
 refine kQ ?_
 refine kEF [1,2,4] ⟨[(1,.v (.string text)),(2,.p 0 0),(4,.p 1 0)],[⟨27,sndL s⟩,⟨27,sndZ⟩],[],[]⟩ ?_
 refine kS ?_
 refine kQ ?_
 refine kCD 1 [1,2,4,7] [(7,.v (.agg (sndL s).toArray))] 75 [.agg (sndL s).toArray] (some 8) rfl (xc_b fun ww hf => sSenderOk_c s.una s.data s.sent s.fin s.finSent s.done ww ) ?_
 intro _
 refine kRD 2 [1,2,4,10] [(10,.v (.bool (!(senderOk s))))] ?_
 refine kP 10 (!(senderOk s)) (fun h1 => ?_) (fun h1 => ?_)
 have h1n := not_t h1
 refine kED [1,2,4,13] [(13,.v (.bool true))] ?_
 refine kT ?_
 refine kQ ?_
 refine kEU [4,5] [(5,.v (.int .i64 0))] 1 ⟨27,sndL s⟩ ?_
 refine kR ?_
 have hmod : queued s text = (s,0) := by first | rfl | (simp [queued, *]; done) | grind [queued]
 exact ⟨[.agg (sndL s).toArray,.int .i64 0],by kernel_rfl,fun w' hb hf => by rw [hmod]; exact ⟨rfl,hb⟩⟩
 have h1n := not_f h1
 have h1nb := senderOk_bd (s := s) (by simpa using h1n)
 obtain ⟨h1nb0,h1nb1,h1nb2,h1nb3,h1nb4,h1nb5,h1nb6,h1nb7,h1nb8,h1nb9,h1nb10⟩ := h1nb
 refine kED [1,2,4,13] [(13,.v (.bool s.fin))] ?_
 refine kC (s.fin) (fun h2 => ?_) (fun h2 => ?_)
 refine kQ ?_
 refine kEU [4,5] [(5,.v (.int .i64 0))] 1 ⟨27,sndL s⟩ ?_
 refine kR ?_
 have hmod : queued s text = (s,0) := by first | rfl | (simp [queued, *]; done) | grind [queued]
 exact ⟨[.agg (sndL s).toArray,.int .i64 0],by kernel_rfl,fun w' hb hf => by rw [hmod]; exact ⟨rfl,hb⟩⟩
 refine kK ?_
 refine kQ ?_
 refine kCD 6 [1,2,4,16,20] [(16,.v (.int .i64 (text.size : Int))),(20,.v (.int .i64 (IntKind.i64.wrap (48 - (s.data.size : Int)))))] 116 [.int .i64 (text.size : Int),.int .i64 (IntKind.i64.wrap (48 - (s.data.size : Int)))] (some 21) rfl (xc_s fun ww hf => l1Min_c (text.size : Int) (IntKind.i64.wrap (48 - (s.data.size : Int))) ww ) ?_
 intro _
 refine kRS 1 [1,2,4,6] [(1,.v (.string text)),(2,.p 0 0),(4,.p 1 0),(6,.v (.int .i64 (min (text.size : Int) (IntKind.i64.wrap (48 - (s.data.size : Int))))))] ?_
 refine xl_eqS (t' := [(1,.v (.string text)),(2,.p 0 0),(4,.p 1 0),(6,.v (.int .i64 (min (text.size : Int) (48 - (s.data.size : Int)))))]) (by rw [show (IntKind.i64.wrap (48 - (s.data.size : Int))) = (48 - (s.data.size : Int)) from wrap_id (by omega) (by omega)]) ?_
 refine kED [1,2,4,6] [] ?_
 refine kS ?_
 refine xe_region [false,true] (by kernel_rfl) (fun ρ σ => ?_)
 refine kTS [0,2,3] [25,24,22,2,4,6] 5 [(25,.v (.int .i64 (min (text.size : Int) (48 - (s.data.size : Int))))),(24,.v (.string text)),(22,.p 0 1),(2,.p 0 0),(4,.p 1 0),(6,.v (.int .i64 (min (text.size : Int) (48 - (s.data.size : Int)))))] ?_
 refine kX 4 (.string (text.extract 0 (min (text.size : Int) (48 - (s.data.size : Int))).toNat)) rfl (fun _ _ ww hA => act_slS0 (min (text.size : Int) (48 - (s.data.size : Int))) hA rfl (by kernel_rfl) rfl rfl (by omega) (by omega) ww) ?_
 refine kA [1] ?_
 refine kSV 1 (.v (.string s.data)) rfl ?_
 refine kX 5 (.string (s.data ++ (text.extract 0 (min (text.size : Int) (48 - (s.data.size : Int))).toNat))) rfl (fun _ _ ww hA => act_bin hA rfl (by kernel_rfl) (by kernel_rfl) (str_add (by first | omega | (simp only [ByteArray.size_extract]; omega)) ww)) ?_
 refine kTS [6] [28,27,2,4,6] 1 [(28,.p 0 1),(27,.v (.string (s.data ++ (text.extract 0 (min (text.size : Int) (48 - (s.data.size : Int))).toNat)))),(2,.p 0 0),(4,.p 1 0),(6,.v (.int .i64 (min (text.size : Int) (48 - (s.data.size : Int)))))] ?_
 refine kA [7] ?_
 refine kSS 7 0 1 [.string (s.data ++ (text.extract 0 (min (text.size : Int) (48 - (s.data.size : Int))).toNat))] rfl ?_
 refine kZ ?_
 refine kQ ?_
 refine kEU [4,5] [(5,.v (.int .i64 (min (text.size : Int) (48 - (s.data.size : Int)))))] 1 ⟨27,sndL { s with data := s.data ++ (text.extract 0 (min (text.size : Int) (48 - (s.data.size : Int))).toNat) }⟩ ?_
 refine kR ?_
 have hmod : queued s text = (({ s with data := s.data ++ (text.extract 0 (min (text.size : Int) (48 - (s.data.size : Int))).toNat) }),(min (text.size : Int) (48 - (s.data.size : Int)))) := by first | rfl | (simp [queued, *]; done) | grind [queued]
 exact ⟨[.agg (sndL { s with data := s.data ++ (text.extract 0 (min (text.size : Int) (48 - (s.data.size : Int))).toNat) }).toArray,.int .i64 (min (text.size : Int) (48 - (s.data.size : Int)))],by kernel_rfl,fun w' hb hf => by rw [hmod]; exact ⟨rfl,hb⟩⟩
theorem yiNextChunk_c (s : Snd) (window : Int) (mss : Int) (w : World) (hwi : -9223372036854775808 ≤ window ∧ window ≤ 9223372036854775807) : Calls Tryz.prog 88 #[.agg (sndL s).toArray, .int .i64 window, .int .i64 mss] w fun e w' => e = .returned (.tuple #[.agg (chkL (nextChunk s window mss).1).toArray, .bool ((nextChunk s window mss).2)]) ∧ Below w.heap.size w w' := by
 refine x_calls (args := [.agg (sndL s).toArray,.int .i64 window,.int .i64 mss]) (fn := Tryz.f88) [] Tryz.func88 rfl Tryz.ntmps88 rfl (by simp) ?_
 refine kQ ?_
 refine kEF [1,2,3,6] ⟨[(1,.v (.int .i64 window)),(2,.v (.int .i64 mss)),(3,.p 0 0),(6,.p 1 0)],[⟨27,sndL s⟩,⟨89,chkL (⟨0,(⟨#[]⟩ : ByteArray),false⟩ : Chk)⟩],[],[]⟩ ?_
 refine kS ?_
 refine kQ ?_
 refine kCD 1 [1,2,3,6,12] [(12,.v (.agg (sndL s).toArray))] 81 [.agg (sndL s).toArray] (some 13) rfl (xc_b fun ww hf => iSenderOk_c s.una s.data s.sent s.fin s.finSent s.done ww ) ?_
 intro _
 refine kED [1,2,3,6,14] [(14,.v (.bool (!(senderOk s))))] ?_
 refine kC (!(senderOk s)) (fun h1 => ?_) (fun h1 => ?_)
 have hsn := not_t h1
 refine kQ ?_
 refine kOS 0 [6] [(6,.p 1 0)] (.agg (chkL (⟨0,(⟨#[]⟩ : ByteArray),false⟩ : Chk)).toArray) rfl (fun _ _ _ ww hr => act_build [] hr.1 rfl (by kernel_rfl) (by kernel_rfl) ww) ?_
 refine kED [6,7] [(7,.v (.bool false))] ?_
 refine kR ?_
 have hmod : nextChunk s window mss = ((⟨0,(⟨#[]⟩ : ByteArray),false⟩),false) := by first | rfl | (simp [nextChunk,zeroChk,chunkFin, *]; done) | (simp [nextChunk,zeroChk,chunkFin, *]; omega) | grind [nextChunk,zeroChk,chunkFin]
 exact ⟨[.agg (chkL (⟨0,(⟨#[]⟩ : ByteArray),false⟩ : Chk)).toArray,.bool false],by kernel_rfl,fun w' hb hf => by rw [hmod]; exact ⟨rfl,hb⟩⟩
 have h1b := senderOk_bd (s := s) (by simpa using h1)
 obtain ⟨h1b0,h1b1,h1b2,h1b3,h1b4,h1b5,h1b6,h1b7,h1b8,h1b9,h1b10⟩ := h1b
 have hsn := not_f h1
 obtain ⟨c0,c1,c2,c3,c4⟩ := chunkN_bd (window := window) (mss := mss) hsn
 have hez := rest_size hsn; have hwl := wnd_lt (window := window) (mss := mss) hsn; have hcj := chunkN_j (window := window) (mss := mss) hsn; have hxt := chunk_ext (window := window) (mss := mss) hsn; have hte := chunk_nil (window := window) (mss := mss) hsn
 refine kK ?_
 refine kQ ?_
 refine kOD 1 [2,3,6,16] [(16,.v (.int .i64 window))] (.int .i64 (max window (-1))) rfl (fun _ _ _ ww hr => act_max2 hr.1 rfl rfl rfl rfl rfl ww) ?_
 refine kCD 1 [2,3,6,17,18] [(18,.v (.agg (sndL s).toArray))] 57 [.agg (sndL s).toArray] (some 19) rfl (xc_b fun ww hf => iFlown_c s.una s.data s.sent s.fin s.finSent s.done ww ) ?_
 intro _
 refine kRS 2 [2,3,6,8] [(2,.v (.int .i64 mss)),(3,.p 0 0),(6,.p 1 0),(8,.v (.int .i64 (IntKind.i64.wrap ((max window (-1)) - (flown s)))))] ?_
 refine xl_eqS (t' := [(2,.v (.int .i64 mss)),(3,.p 0 0),(6,.p 1 0),(8,.v (.int .i64 ((max window (-1)) - (flown s))))]) (by rw [show (IntKind.i64.wrap ((max window (-1)) - (flown s))) = ((max window (-1)) - (flown s)) from wrap_id (by omega) (by omega)]) ?_
 refine kED [2,3,6,8] [] ?_
 refine kQ ?_
 refine kOD 4 [2,3,6,8,22,24] [(22,.v (.string s.data)),(24,.v (.int .i64 s.sent))] (.string (s.data.extract (s.sent).toNat s.data.size)) rfl (fun _ _ _ ww hr => act_slSe (s.sent) hr.1 rfl (by kernel_rfl) rfl rfl (by omega) (by omega) ww) ?_
 refine kED [2,3,6,8,9] [(9,.v (.string (s.data.extract (s.sent).toNat s.data.size)))] ?_
 refine kQ ?_
 refine kOD 4 [3,6,8,9,27,28,29] [(27,.v (.int .i64 ((s.data.extract (s.sent).toNat s.data.size).size : Int))),(28,.v (.int .i64 mss)),(29,.v (.int .i64 ((max window (-1)) - (flown s))))] (.int .i64 (min (min ((s.data.extract (s.sent).toNat s.data.size).size : Int) mss) ((max window (-1)) - (flown s)))) rfl (fun _ _ _ ww hr => act_min3 hr.1 rfl rfl rfl rfl rfl rfl ww) ?_
 refine kOD 0 [3,6,8,9,30] [] (.int .i64 (max 0 (min (min ((s.data.extract (s.sent).toNat s.data.size).size : Int) mss) ((max window (-1)) - (flown s))))) rfl (fun _ _ _ ww hr => act_max2 hr.1 rfl rfl rfl rfl rfl ww) ?_
 refine kRS 1 [3,6,8,9,10] [(3,.p 0 0),(6,.p 1 0),(8,.v (.int .i64 ((max window (-1)) - (flown s)))),(9,.v (.string (s.data.extract (s.sent).toNat s.data.size))),(10,.v (.int .i64 (max 0 (min (min ((s.data.extract (s.sent).toNat s.data.size).size : Int) mss) ((max window (-1)) - (flown s))))))] ?_
 refine xl_eqS (t' := [(3,.p 0 0),(6,.p 1 0),(8,.v (.int .i64 ((max window (-1)) - (flown s)))),(9,.v (.string (s.data.extract (s.sent).toNat s.data.size))),(10,.v (.int .i64 (chunkN s window mss)))]) (by rw [show ((s.data.extract (s.sent).toNat s.data.size).size : Int) = ((s.data.size : Int) - s.sent) from hez,show (max 0 (min (min ((s.data.size : Int) - s.sent) mss) ((max window (-1)) - (flown s)))) = (chunkN s window mss) from hcj]) ?_
 refine kED [3,6,8,9,10] [] ?_
 refine kS ?_
 refine xe_region [] (by kernel_rfl) (fun ρ σ => ?_)
 refine kTS [0,2,3,5,6] [38,35,34,32,3,6,8,9,10] 26 [(38,.v (.bool s.fin)),(35,.v (.int .i64 (chunkN s window mss))),(34,.v (.string (s.data.extract (s.sent).toNat s.data.size))),(32,.v (.agg (sndL s).toArray)),(3,.p 0 0),(6,.p 1 0),(8,.v (.int .i64 ((max window (-1)) - (flown s)))),(9,.v (.string (s.data.extract (s.sent).toNat s.data.size))),(10,.v (.int .i64 (chunkN s window mss)))] ?_
 refine kX 4 (.string ((s.data.extract (s.sent).toNat s.data.size).extract 0 (chunkN s window mss).toNat)) rfl (fun _ _ ww hA => act_slS0 (chunkN s window mss) hA rfl (by kernel_rfl) rfl rfl (by omega) (by omega) ww) ?_
 refine xe_eqS (t := [(36,.v (.string ((s.data.extract (s.sent).toNat s.data.size).extract 0 (chunkN s window mss).toNat))),(38,.v (.bool s.fin)),(35,.v (.int .i64 (chunkN s window mss))),(34,.v (.string (s.data.extract (s.sent).toNat s.data.size))),(32,.v (.agg (sndL s).toArray)),(3,.p 0 0),(6,.p 1 0),(8,.v (.int .i64 ((max window (-1)) - (flown s)))),(9,.v (.string (s.data.extract (s.sent).toNat s.data.size))),(10,.v (.int .i64 (chunkN s window mss)))]) (t' := [(36,.v (.string (s.data.extract (s.sent).toNat (s.sent + chunkN s window mss).toNat))),(38,.v (.bool s.fin)),(35,.v (.int .i64 (chunkN s window mss))),(34,.v (.string (s.data.extract (s.sent).toNat s.data.size))),(32,.v (.agg (sndL s).toArray)),(3,.p 0 0),(6,.p 1 0),(8,.v (.int .i64 ((max window (-1)) - (flown s)))),(9,.v (.string (s.data.extract (s.sent).toNat s.data.size))),(10,.v (.int .i64 (chunkN s window mss)))]) (by rw [show ((s.data.extract (s.sent).toNat s.data.size).extract 0 (chunkN s window mss).toNat) = (s.data.extract (s.sent).toNat (s.sent + chunkN s window mss).toNat) from hxt]) ?_
 refine kA [1,29] ⟨?_,?_⟩
 refine kSC 1 113 [.agg (sndL s).toArray] (some 33) rfl (xc_b fun ww hf => iNextOf_c s.una s.data s.sent s.fin s.finSent s.done ww ) ?_
 intro _
 refine kTS [7] [39,33,36,3,6,8,9,10] 23 [(39,.v (.bool s.fin)),(33,.v (.int .i64 (nextOf s))),(36,.v (.string (s.data.extract (s.sent).toNat (s.sent + chunkN s window mss).toNat))),(3,.p 0 0),(6,.p 1 0),(8,.v (.int .i64 ((max window (-1)) - (flown s)))),(9,.v (.string (s.data.extract (s.sent).toNat s.data.size))),(10,.v (.int .i64 (chunkN s window mss)))] ?_
 refine kY 39 (s.fin) (fun h2 => ?_) (fun h2 => ?_)
 refine kTS [8,9,10,11,12] [44,33,36,3,6,8,9,10] 18 [(44,.v (.bool (!s.finSent))),(33,.v (.int .i64 (nextOf s))),(36,.v (.string (s.data.extract (s.sent).toNat (s.sent + chunkN s window mss).toNat))),(3,.p 0 0),(6,.p 1 0),(8,.v (.int .i64 ((max window (-1)) - (flown s)))),(9,.v (.string (s.data.extract (s.sent).toNat s.data.size))),(10,.v (.int .i64 (chunkN s window mss)))] ?_
 refine kY 44 (!s.finSent) (fun h3 => ?_) (fun h3 => ?_)
 have h3n := not_t h3
 refine kTS [13,14,15,16,17] [49,33,36,6,8,9,10] 13 [(49,.v (.bool (!s.done))),(33,.v (.int .i64 (nextOf s))),(36,.v (.string (s.data.extract (s.sent).toNat (s.sent + chunkN s window mss).toNat))),(6,.p 1 0),(8,.v (.int .i64 ((max window (-1)) - (flown s)))),(9,.v (.string (s.data.extract (s.sent).toNat s.data.size))),(10,.v (.int .i64 (chunkN s window mss)))] ?_
 refine kY 49 (!s.done) (fun h4 => ?_) (fun h4 => ?_)
 have h4n := not_t h4
 refine kTS [18,19,20,21,22,23] [55,33,36,6,8,10] 7 [(55,.v (.bool ((chunkN s window mss) == ((s.data.extract (s.sent).toNat s.data.size).size : Int)))),(33,.v (.int .i64 (nextOf s))),(36,.v (.string (s.data.extract (s.sent).toNat (s.sent + chunkN s window mss).toNat))),(6,.p 1 0),(8,.v (.int .i64 ((max window (-1)) - (flown s)))),(10,.v (.int .i64 (chunkN s window mss)))] ?_
 refine xe_eqS (t := [(55,.v (.bool ((chunkN s window mss) == ((s.data.extract (s.sent).toNat s.data.size).size : Int)))),(33,.v (.int .i64 (nextOf s))),(36,.v (.string (s.data.extract (s.sent).toNat (s.sent + chunkN s window mss).toNat))),(6,.p 1 0),(8,.v (.int .i64 ((max window (-1)) - (flown s)))),(10,.v (.int .i64 (chunkN s window mss)))]) (t' := [(55,.v (.bool ((chunkN s window mss) == ((s.data.size : Int) - s.sent)))),(33,.v (.int .i64 (nextOf s))),(36,.v (.string (s.data.extract (s.sent).toNat (s.sent + chunkN s window mss).toNat))),(6,.p 1 0),(8,.v (.int .i64 ((max window (-1)) - (flown s)))),(10,.v (.int .i64 (chunkN s window mss)))]) (by rw [show ((s.data.extract (s.sent).toNat s.data.size).size : Int) = ((s.data.size : Int) - s.sent) from hez]) ?_
 refine kY 55 ((chunkN s window mss) == ((s.data.size : Int) - s.sent)) (fun h5 => ?_) (fun h5 => ?_)
 have h5p := eqT h5
 refine kTS [24,25,26,27] [59,33,36,6] 3 [(59,.v (.bool (decide (((max window (-1)) - (flown s)) > (chunkN s window mss))))),(33,.v (.int .i64 (nextOf s))),(36,.v (.string (s.data.extract (s.sent).toNat (s.sent + chunkN s window mss).toNat))),(6,.p 1 0)] ?_
 refine kX 28 (.agg (chkL (⟨nextOf s,s.data.extract (s.sent).toNat (s.sent + chunkN s window mss).toNat,decide (((max window (-1)) - (flown s)) > (chunkN s window mss))⟩ : Chk)).toArray) rfl (fun _ _ ww hA => act_build [(0,.int .i64 (nextOf s)),(1,.string (s.data.extract (s.sent).toNat (s.sent + chunkN s window mss).toNat)),(2,.bool (decide (((max window (-1)) - (flown s)) > (chunkN s window mss))))] hA rfl (by kernel_rfl) (by kernel_rfl) ww) ?_
 refine kA [29] ?_
 refine xs_box 29 ⟨89,chkL (⟨0,(⟨#[]⟩ : ByteArray),false⟩ : Chk)⟩ _ rfl (by kernel_rfl) (by kernel_rfl) (by kernel_rfl) (by kernel_rfl) rfl ?_
 refine kA [30] ?_
 refine kSS 30 2 0 (chkL (⟨nextOf s,s.data.extract (s.sent).toNat (s.sent + chunkN s window mss).toNat,decide (((max window (-1)) - (flown s)) > (chunkN s window mss))⟩ : Chk)) rfl ?_
 refine kZ ?_
 refine kS ?_
 refine kQ ?_
 refine kRS 4 [6,11,64] [(6,.p 1 0),(11,.p 2 0),(64,.v (.bool ((s.data.extract (s.sent).toNat (s.sent + chunkN s window mss).toNat).toList == (⟨#[]⟩ : ByteArray).toList)))] ?_
 refine xl_eqS (t' := [(6,.p 1 0),(11,.p 2 0),(64,.v (.bool (chunkN s window mss == 0)))]) (by rw [show ((s.data.extract (s.sent).toNat (s.sent + chunkN s window mss).toNat).toList == (⟨#[]⟩ : ByteArray).toList) = (chunkN s window mss == 0) from hte]) ?_
 refine kP 64 (chunkN s window mss == 0) (fun h6 => ?_) (fun h6 => ?_)
 have h6p := eqT h6
 refine kED [6,11,68] [(68,.v (.bool (!(decide (((max window (-1)) - (flown s)) > (chunkN s window mss))))))] ?_
 refine kC (!(decide (((max window (-1)) - (flown s)) > (chunkN s window mss)))) (fun h7 => ?_) (fun h7 => ?_)
 have h7n := not_t h7
 refine kQ ?_
 refine kOS 0 [6] [(6,.p 1 0)] (.agg (chkL (⟨0,(⟨#[]⟩ : ByteArray),false⟩ : Chk)).toArray) rfl (fun _ _ _ ww hr => act_build [] hr.1 rfl (by kernel_rfl) (by kernel_rfl) ww) ?_
 refine kED [6,7] [(7,.v (.bool false))] ?_
 refine kR ?_
 have hmod : nextChunk s window mss = ((⟨0,(⟨#[]⟩ : ByteArray),false⟩),false) := by first | rfl | (simp [nextChunk,zeroChk,chunkFin, *]; done) | (simp [nextChunk,zeroChk,chunkFin, *]; omega) | grind [nextChunk,zeroChk,chunkFin]
 exact ⟨[.agg (chkL (⟨0,(⟨#[]⟩ : ByteArray),false⟩ : Chk)).toArray,.bool false],by kernel_rfl,fun w' hb hf => by rw [hmod]; exact ⟨rfl,hb⟩⟩
 have h7n := not_f h7
 refine kK ?_
 refine kQ ?_
 refine kEU [6,7] [(7,.v (.bool true))] 1 ⟨89,chkL (⟨nextOf s,s.data.extract (s.sent).toNat (s.sent + chunkN s window mss).toNat,decide (((max window (-1)) - (flown s)) > (chunkN s window mss))⟩ : Chk)⟩ ?_
 refine kR ?_
 have hmod : nextChunk s window mss = ((⟨nextOf s,s.data.extract (s.sent).toNat (s.sent + chunkN s window mss).toNat,decide (((max window (-1)) - (flown s)) > (chunkN s window mss))⟩),true) := by first | rfl | (simp [nextChunk,zeroChk,chunkFin, *]; done) | (simp [nextChunk,zeroChk,chunkFin, *]; omega) | grind [nextChunk,zeroChk,chunkFin]
 exact ⟨[.agg (chkL (⟨nextOf s,s.data.extract (s.sent).toNat (s.sent + chunkN s window mss).toNat,decide (((max window (-1)) - (flown s)) > (chunkN s window mss))⟩ : Chk)).toArray,.bool true],by kernel_rfl,fun w' hb hf => by rw [hmod]; exact ⟨rfl,hb⟩⟩
 have h6p := eqF h6
 refine kED [6,11,68] [(68,.v (.bool false))] ?_
 refine kN ?_
 refine kK ?_
 refine kQ ?_
 refine kEU [6,7] [(7,.v (.bool true))] 1 ⟨89,chkL (⟨nextOf s,s.data.extract (s.sent).toNat (s.sent + chunkN s window mss).toNat,decide (((max window (-1)) - (flown s)) > (chunkN s window mss))⟩ : Chk)⟩ ?_
 refine kR ?_
 have hmod : nextChunk s window mss = ((⟨nextOf s,s.data.extract (s.sent).toNat (s.sent + chunkN s window mss).toNat,decide (((max window (-1)) - (flown s)) > (chunkN s window mss))⟩),true) := by first | rfl | (simp [nextChunk,zeroChk,chunkFin, *]; done) | (simp [nextChunk,zeroChk,chunkFin, *]; omega) | grind [nextChunk,zeroChk,chunkFin]
 exact ⟨[.agg (chkL (⟨nextOf s,s.data.extract (s.sent).toNat (s.sent + chunkN s window mss).toNat,decide (((max window (-1)) - (flown s)) > (chunkN s window mss))⟩ : Chk)).toArray,.bool true],by kernel_rfl,fun w' hb hf => by rw [hmod]; exact ⟨rfl,hb⟩⟩
 have h5p := eqF h5
 refine kTS [24,25,26,27] [59,33,36,6] 3 [(59,.v (.bool false)),(33,.v (.int .i64 (nextOf s))),(36,.v (.string (s.data.extract (s.sent).toNat (s.sent + chunkN s window mss).toNat))),(6,.p 1 0)] ?_
 refine kX 28 (.agg (chkL (⟨nextOf s,s.data.extract (s.sent).toNat (s.sent + chunkN s window mss).toNat,false⟩ : Chk)).toArray) rfl (fun _ _ ww hA => act_build [(0,.int .i64 (nextOf s)),(1,.string (s.data.extract (s.sent).toNat (s.sent + chunkN s window mss).toNat)),(2,.bool false)] hA rfl (by kernel_rfl) (by kernel_rfl) ww) ?_
 refine kA [29] ?_
 refine xs_box 29 ⟨89,chkL (⟨0,(⟨#[]⟩ : ByteArray),false⟩ : Chk)⟩ _ rfl (by kernel_rfl) (by kernel_rfl) (by kernel_rfl) (by kernel_rfl) rfl ?_
 refine kA [30] ?_
 refine kSS 30 2 0 (chkL (⟨nextOf s,s.data.extract (s.sent).toNat (s.sent + chunkN s window mss).toNat,false⟩ : Chk)) rfl ?_
 refine kZ ?_
 refine kS ?_
 refine kQ ?_
 refine kRS 4 [6,11,64] [(6,.p 1 0),(11,.p 2 0),(64,.v (.bool ((s.data.extract (s.sent).toNat (s.sent + chunkN s window mss).toNat).toList == (⟨#[]⟩ : ByteArray).toList)))] ?_
 refine xl_eqS (t' := [(6,.p 1 0),(11,.p 2 0),(64,.v (.bool (chunkN s window mss == 0)))]) (by rw [show ((s.data.extract (s.sent).toNat (s.sent + chunkN s window mss).toNat).toList == (⟨#[]⟩ : ByteArray).toList) = (chunkN s window mss == 0) from hte]) ?_
 refine kP 64 (chunkN s window mss == 0) (fun h8 => ?_) (fun h8 => ?_)
 have h8p := eqT h8
 refine kED [6,11,68] [(68,.v (.bool true))] ?_
 refine kT ?_
 refine kQ ?_
 refine kOS 0 [6] [(6,.p 1 0)] (.agg (chkL (⟨0,(⟨#[]⟩ : ByteArray),false⟩ : Chk)).toArray) rfl (fun _ _ _ ww hr => act_build [] hr.1 rfl (by kernel_rfl) (by kernel_rfl) ww) ?_
 refine kED [6,7] [(7,.v (.bool false))] ?_
 refine kR ?_
 have hmod : nextChunk s window mss = ((⟨0,(⟨#[]⟩ : ByteArray),false⟩),false) := by first | rfl | (simp [nextChunk,zeroChk,chunkFin, *]; done) | (simp [nextChunk,zeroChk,chunkFin, *]; omega) | grind [nextChunk,zeroChk,chunkFin]
 exact ⟨[.agg (chkL (⟨0,(⟨#[]⟩ : ByteArray),false⟩ : Chk)).toArray,.bool false],by kernel_rfl,fun w' hb hf => by rw [hmod]; exact ⟨rfl,hb⟩⟩
 have h8p := eqF h8
 refine kED [6,11,68] [(68,.v (.bool false))] ?_
 refine kN ?_
 refine kK ?_
 refine kQ ?_
 refine kEU [6,7] [(7,.v (.bool true))] 1 ⟨89,chkL (⟨nextOf s,s.data.extract (s.sent).toNat (s.sent + chunkN s window mss).toNat,false⟩ : Chk)⟩ ?_
 refine kR ?_
 have hmod : nextChunk s window mss = ((⟨nextOf s,s.data.extract (s.sent).toNat (s.sent + chunkN s window mss).toNat,false⟩),true) := by first | rfl | (simp [nextChunk,zeroChk,chunkFin, *]; done) | (simp [nextChunk,zeroChk,chunkFin, *]; omega) | grind [nextChunk,zeroChk,chunkFin]
 exact ⟨[.agg (chkL (⟨nextOf s,s.data.extract (s.sent).toNat (s.sent + chunkN s window mss).toNat,false⟩ : Chk)).toArray,.bool true],by kernel_rfl,fun w' hb hf => by rw [hmod]; exact ⟨rfl,hb⟩⟩
 have h4n := not_f h4
 refine kTS [18,19,20,21,22,23,24,25,26,27] [59,33,36,6] 3 [(59,.v (.bool false)),(33,.v (.int .i64 (nextOf s))),(36,.v (.string (s.data.extract (s.sent).toNat (s.sent + chunkN s window mss).toNat))),(6,.p 1 0)] ?_
 refine kX 28 (.agg (chkL (⟨nextOf s,s.data.extract (s.sent).toNat (s.sent + chunkN s window mss).toNat,false⟩ : Chk)).toArray) rfl (fun _ _ ww hA => act_build [(0,.int .i64 (nextOf s)),(1,.string (s.data.extract (s.sent).toNat (s.sent + chunkN s window mss).toNat)),(2,.bool false)] hA rfl (by kernel_rfl) (by kernel_rfl) ww) ?_
 refine kA [29] ?_
 refine xs_box 29 ⟨89,chkL (⟨0,(⟨#[]⟩ : ByteArray),false⟩ : Chk)⟩ _ rfl (by kernel_rfl) (by kernel_rfl) (by kernel_rfl) (by kernel_rfl) rfl ?_
 refine kA [30] ?_
 refine kSS 30 2 0 (chkL (⟨nextOf s,s.data.extract (s.sent).toNat (s.sent + chunkN s window mss).toNat,false⟩ : Chk)) rfl ?_
 refine kZ ?_
 refine kS ?_
 refine kQ ?_
 refine kRS 4 [6,11,64] [(6,.p 1 0),(11,.p 2 0),(64,.v (.bool ((s.data.extract (s.sent).toNat (s.sent + chunkN s window mss).toNat).toList == (⟨#[]⟩ : ByteArray).toList)))] ?_
 refine xl_eqS (t' := [(6,.p 1 0),(11,.p 2 0),(64,.v (.bool (chunkN s window mss == 0)))]) (by rw [show ((s.data.extract (s.sent).toNat (s.sent + chunkN s window mss).toNat).toList == (⟨#[]⟩ : ByteArray).toList) = (chunkN s window mss == 0) from hte]) ?_
 refine kP 64 (chunkN s window mss == 0) (fun h9 => ?_) (fun h9 => ?_)
 have h9p := eqT h9
 refine kED [6,11,68] [(68,.v (.bool true))] ?_
 refine kT ?_
 refine kQ ?_
 refine kOS 0 [6] [(6,.p 1 0)] (.agg (chkL (⟨0,(⟨#[]⟩ : ByteArray),false⟩ : Chk)).toArray) rfl (fun _ _ _ ww hr => act_build [] hr.1 rfl (by kernel_rfl) (by kernel_rfl) ww) ?_
 refine kED [6,7] [(7,.v (.bool false))] ?_
 refine kR ?_
 have hmod : nextChunk s window mss = ((⟨0,(⟨#[]⟩ : ByteArray),false⟩),false) := by first | rfl | (simp [nextChunk,zeroChk,chunkFin, *]; done) | (simp [nextChunk,zeroChk,chunkFin, *]; omega) | grind [nextChunk,zeroChk,chunkFin]
 exact ⟨[.agg (chkL (⟨0,(⟨#[]⟩ : ByteArray),false⟩ : Chk)).toArray,.bool false],by kernel_rfl,fun w' hb hf => by rw [hmod]; exact ⟨rfl,hb⟩⟩
 have h9p := eqF h9
 refine kED [6,11,68] [(68,.v (.bool false))] ?_
 refine kN ?_
 refine kK ?_
 refine kQ ?_
 refine kEU [6,7] [(7,.v (.bool true))] 1 ⟨89,chkL (⟨nextOf s,s.data.extract (s.sent).toNat (s.sent + chunkN s window mss).toNat,false⟩ : Chk)⟩ ?_
 refine kR ?_
 have hmod : nextChunk s window mss = ((⟨nextOf s,s.data.extract (s.sent).toNat (s.sent + chunkN s window mss).toNat,false⟩),true) := by first | rfl | (simp [nextChunk,zeroChk,chunkFin, *]; done) | (simp [nextChunk,zeroChk,chunkFin, *]; omega) | grind [nextChunk,zeroChk,chunkFin]
 exact ⟨[.agg (chkL (⟨nextOf s,s.data.extract (s.sent).toNat (s.sent + chunkN s window mss).toNat,false⟩ : Chk)).toArray,.bool true],by kernel_rfl,fun w' hb hf => by rw [hmod]; exact ⟨rfl,hb⟩⟩
 have h3n := not_f h3
 refine kTS [13,14,15,16,17,18,19,20,21,22,23,24,25,26,27] [59,33,36,6] 3 [(59,.v (.bool false)),(33,.v (.int .i64 (nextOf s))),(36,.v (.string (s.data.extract (s.sent).toNat (s.sent + chunkN s window mss).toNat))),(6,.p 1 0)] ?_
 refine kX 28 (.agg (chkL (⟨nextOf s,s.data.extract (s.sent).toNat (s.sent + chunkN s window mss).toNat,false⟩ : Chk)).toArray) rfl (fun _ _ ww hA => act_build [(0,.int .i64 (nextOf s)),(1,.string (s.data.extract (s.sent).toNat (s.sent + chunkN s window mss).toNat)),(2,.bool false)] hA rfl (by kernel_rfl) (by kernel_rfl) ww) ?_
 refine kA [29] ?_
 refine xs_box 29 ⟨89,chkL (⟨0,(⟨#[]⟩ : ByteArray),false⟩ : Chk)⟩ _ rfl (by kernel_rfl) (by kernel_rfl) (by kernel_rfl) (by kernel_rfl) rfl ?_
 refine kA [30] ?_
 refine kSS 30 2 0 (chkL (⟨nextOf s,s.data.extract (s.sent).toNat (s.sent + chunkN s window mss).toNat,false⟩ : Chk)) rfl ?_
 refine kZ ?_
 refine kS ?_
 refine kQ ?_
 refine kRS 4 [6,11,64] [(6,.p 1 0),(11,.p 2 0),(64,.v (.bool ((s.data.extract (s.sent).toNat (s.sent + chunkN s window mss).toNat).toList == (⟨#[]⟩ : ByteArray).toList)))] ?_
 refine xl_eqS (t' := [(6,.p 1 0),(11,.p 2 0),(64,.v (.bool (chunkN s window mss == 0)))]) (by rw [show ((s.data.extract (s.sent).toNat (s.sent + chunkN s window mss).toNat).toList == (⟨#[]⟩ : ByteArray).toList) = (chunkN s window mss == 0) from hte]) ?_
 refine kP 64 (chunkN s window mss == 0) (fun h10 => ?_) (fun h10 => ?_)
 have h10p := eqT h10
 refine kED [6,11,68] [(68,.v (.bool true))] ?_
 refine kT ?_
 refine kQ ?_
 refine kOS 0 [6] [(6,.p 1 0)] (.agg (chkL (⟨0,(⟨#[]⟩ : ByteArray),false⟩ : Chk)).toArray) rfl (fun _ _ _ ww hr => act_build [] hr.1 rfl (by kernel_rfl) (by kernel_rfl) ww) ?_
 refine kED [6,7] [(7,.v (.bool false))] ?_
 refine kR ?_
 have hmod : nextChunk s window mss = ((⟨0,(⟨#[]⟩ : ByteArray),false⟩),false) := by first | rfl | (simp [nextChunk,zeroChk,chunkFin, *]; done) | (simp [nextChunk,zeroChk,chunkFin, *]; omega) | grind [nextChunk,zeroChk,chunkFin]
 exact ⟨[.agg (chkL (⟨0,(⟨#[]⟩ : ByteArray),false⟩ : Chk)).toArray,.bool false],by kernel_rfl,fun w' hb hf => by rw [hmod]; exact ⟨rfl,hb⟩⟩
 have h10p := eqF h10
 refine kED [6,11,68] [(68,.v (.bool false))] ?_
 refine kN ?_
 refine kK ?_
 refine kQ ?_
 refine kEU [6,7] [(7,.v (.bool true))] 1 ⟨89,chkL (⟨nextOf s,s.data.extract (s.sent).toNat (s.sent + chunkN s window mss).toNat,false⟩ : Chk)⟩ ?_
 refine kR ?_
 have hmod : nextChunk s window mss = ((⟨nextOf s,s.data.extract (s.sent).toNat (s.sent + chunkN s window mss).toNat,false⟩),true) := by first | rfl | (simp [nextChunk,zeroChk,chunkFin, *]; done) | (simp [nextChunk,zeroChk,chunkFin, *]; omega) | grind [nextChunk,zeroChk,chunkFin]
 exact ⟨[.agg (chkL (⟨nextOf s,s.data.extract (s.sent).toNat (s.sent + chunkN s window mss).toNat,false⟩ : Chk)).toArray,.bool true],by kernel_rfl,fun w' hb hf => by rw [hmod]; exact ⟨rfl,hb⟩⟩
 refine kTS [8,9,10,11,12,13,14,15,16,17,18,19,20,21,22,23,24,25,26,27] [59,33,36,6] 3 [(59,.v (.bool false)),(33,.v (.int .i64 (nextOf s))),(36,.v (.string (s.data.extract (s.sent).toNat (s.sent + chunkN s window mss).toNat))),(6,.p 1 0)] ?_
 refine kX 28 (.agg (chkL (⟨nextOf s,s.data.extract (s.sent).toNat (s.sent + chunkN s window mss).toNat,false⟩ : Chk)).toArray) rfl (fun _ _ ww hA => act_build [(0,.int .i64 (nextOf s)),(1,.string (s.data.extract (s.sent).toNat (s.sent + chunkN s window mss).toNat)),(2,.bool false)] hA rfl (by kernel_rfl) (by kernel_rfl) ww) ?_
 refine kA [29] ?_
 refine xs_box 29 ⟨89,chkL (⟨0,(⟨#[]⟩ : ByteArray),false⟩ : Chk)⟩ _ rfl (by kernel_rfl) (by kernel_rfl) (by kernel_rfl) (by kernel_rfl) rfl ?_
 refine kA [30] ?_
 refine kSS 30 2 0 (chkL (⟨nextOf s,s.data.extract (s.sent).toNat (s.sent + chunkN s window mss).toNat,false⟩ : Chk)) rfl ?_
 refine kZ ?_
 refine kS ?_
 refine kQ ?_
 refine kRS 4 [6,11,64] [(6,.p 1 0),(11,.p 2 0),(64,.v (.bool ((s.data.extract (s.sent).toNat (s.sent + chunkN s window mss).toNat).toList == (⟨#[]⟩ : ByteArray).toList)))] ?_
 refine xl_eqS (t' := [(6,.p 1 0),(11,.p 2 0),(64,.v (.bool (chunkN s window mss == 0)))]) (by rw [show ((s.data.extract (s.sent).toNat (s.sent + chunkN s window mss).toNat).toList == (⟨#[]⟩ : ByteArray).toList) = (chunkN s window mss == 0) from hte]) ?_
 refine kP 64 (chunkN s window mss == 0) (fun h11 => ?_) (fun h11 => ?_)
 have h11p := eqT h11
 refine kED [6,11,68] [(68,.v (.bool true))] ?_
 refine kT ?_
 refine kQ ?_
 refine kOS 0 [6] [(6,.p 1 0)] (.agg (chkL (⟨0,(⟨#[]⟩ : ByteArray),false⟩ : Chk)).toArray) rfl (fun _ _ _ ww hr => act_build [] hr.1 rfl (by kernel_rfl) (by kernel_rfl) ww) ?_
 refine kED [6,7] [(7,.v (.bool false))] ?_
 refine kR ?_
 have hmod : nextChunk s window mss = ((⟨0,(⟨#[]⟩ : ByteArray),false⟩),false) := by first | rfl | (simp [nextChunk,zeroChk,chunkFin, *]; done) | (simp [nextChunk,zeroChk,chunkFin, *]; omega) | grind [nextChunk,zeroChk,chunkFin]
 exact ⟨[.agg (chkL (⟨0,(⟨#[]⟩ : ByteArray),false⟩ : Chk)).toArray,.bool false],by kernel_rfl,fun w' hb hf => by rw [hmod]; exact ⟨rfl,hb⟩⟩
 have h11p := eqF h11
 refine kED [6,11,68] [(68,.v (.bool false))] ?_
 refine kN ?_
 refine kK ?_
 refine kQ ?_
 refine kEU [6,7] [(7,.v (.bool true))] 1 ⟨89,chkL (⟨nextOf s,s.data.extract (s.sent).toNat (s.sent + chunkN s window mss).toNat,false⟩ : Chk)⟩ ?_
 refine kR ?_
 have hmod : nextChunk s window mss = ((⟨nextOf s,s.data.extract (s.sent).toNat (s.sent + chunkN s window mss).toNat,false⟩),true) := by first | rfl | (simp [nextChunk,zeroChk,chunkFin, *]; done) | (simp [nextChunk,zeroChk,chunkFin, *]; omega) | grind [nextChunk,zeroChk,chunkFin]
 exact ⟨[.agg (chkL (⟨nextOf s,s.data.extract (s.sent).toNat (s.sent + chunkN s window mss).toNat,false⟩ : Chk)).toArray,.bool true],by kernel_rfl,fun w' hb hf => by rw [hmod]; exact ⟨rfl,hb⟩⟩
 refine xs_box 29 ⟨89,chkL (⟨0,(⟨#[]⟩ : ByteArray),false⟩ : Chk)⟩ _ rfl (by kernel_rfl) (by kernel_rfl) (by kernel_rfl) (by kernel_rfl) rfl ?_
 refine kA [1] ?_
 refine kSC 1 113 [.agg (sndL s).toArray] (some 33) rfl (xc_b fun ww hf => iNextOf_c s.una s.data s.sent s.fin s.finSent s.done ww ) ?_
 intro _
 refine kTS [7] [39,33,11,36,3,6,8,9,10] 22 [(39,.v (.bool s.fin)),(33,.v (.int .i64 (nextOf s))),(11,.p 2 0),(36,.v (.string (s.data.extract (s.sent).toNat (s.sent + chunkN s window mss).toNat))),(3,.p 0 0),(6,.p 1 0),(8,.v (.int .i64 ((max window (-1)) - (flown s)))),(9,.v (.string (s.data.extract (s.sent).toNat s.data.size))),(10,.v (.int .i64 (chunkN s window mss)))] ?_
 refine kY 39 (s.fin) (fun h12 => ?_) (fun h12 => ?_)
 refine kTS [8,9,10,11,12] [44,33,11,36,3,6,8,9,10] 17 [(44,.v (.bool (!s.finSent))),(33,.v (.int .i64 (nextOf s))),(11,.p 2 0),(36,.v (.string (s.data.extract (s.sent).toNat (s.sent + chunkN s window mss).toNat))),(3,.p 0 0),(6,.p 1 0),(8,.v (.int .i64 ((max window (-1)) - (flown s)))),(9,.v (.string (s.data.extract (s.sent).toNat s.data.size))),(10,.v (.int .i64 (chunkN s window mss)))] ?_
 refine kY 44 (!s.finSent) (fun h13 => ?_) (fun h13 => ?_)
 have h13n := not_t h13
 refine kTS [13,14,15,16,17] [49,33,11,36,6,8,9,10] 12 [(49,.v (.bool (!s.done))),(33,.v (.int .i64 (nextOf s))),(11,.p 2 0),(36,.v (.string (s.data.extract (s.sent).toNat (s.sent + chunkN s window mss).toNat))),(6,.p 1 0),(8,.v (.int .i64 ((max window (-1)) - (flown s)))),(9,.v (.string (s.data.extract (s.sent).toNat s.data.size))),(10,.v (.int .i64 (chunkN s window mss)))] ?_
 refine kY 49 (!s.done) (fun h14 => ?_) (fun h14 => ?_)
 have h14n := not_t h14
 refine kTS [18,19,20,21,22,23] [55,33,11,36,6,8,10] 6 [(55,.v (.bool ((chunkN s window mss) == ((s.data.extract (s.sent).toNat s.data.size).size : Int)))),(33,.v (.int .i64 (nextOf s))),(11,.p 2 0),(36,.v (.string (s.data.extract (s.sent).toNat (s.sent + chunkN s window mss).toNat))),(6,.p 1 0),(8,.v (.int .i64 ((max window (-1)) - (flown s)))),(10,.v (.int .i64 (chunkN s window mss)))] ?_
 refine xe_eqS (t := [(55,.v (.bool ((chunkN s window mss) == ((s.data.extract (s.sent).toNat s.data.size).size : Int)))),(33,.v (.int .i64 (nextOf s))),(11,.p 2 0),(36,.v (.string (s.data.extract (s.sent).toNat (s.sent + chunkN s window mss).toNat))),(6,.p 1 0),(8,.v (.int .i64 ((max window (-1)) - (flown s)))),(10,.v (.int .i64 (chunkN s window mss)))]) (t' := [(55,.v (.bool ((chunkN s window mss) == ((s.data.size : Int) - s.sent)))),(33,.v (.int .i64 (nextOf s))),(11,.p 2 0),(36,.v (.string (s.data.extract (s.sent).toNat (s.sent + chunkN s window mss).toNat))),(6,.p 1 0),(8,.v (.int .i64 ((max window (-1)) - (flown s)))),(10,.v (.int .i64 (chunkN s window mss)))]) (by rw [show ((s.data.extract (s.sent).toNat s.data.size).size : Int) = ((s.data.size : Int) - s.sent) from hez]) ?_
 refine kY 55 ((chunkN s window mss) == ((s.data.size : Int) - s.sent)) (fun h15 => ?_) (fun h15 => ?_)
 have h15p := eqT h15
 refine kTS [24,25,26,27] [59,33,11,36,6] 2 [(59,.v (.bool (decide (((max window (-1)) - (flown s)) > (chunkN s window mss))))),(33,.v (.int .i64 (nextOf s))),(11,.p 2 0),(36,.v (.string (s.data.extract (s.sent).toNat (s.sent + chunkN s window mss).toNat))),(6,.p 1 0)] ?_
 refine kX 28 (.agg (chkL (⟨nextOf s,s.data.extract (s.sent).toNat (s.sent + chunkN s window mss).toNat,decide (((max window (-1)) - (flown s)) > (chunkN s window mss))⟩ : Chk)).toArray) rfl (fun _ _ ww hA => act_build [(0,.int .i64 (nextOf s)),(1,.string (s.data.extract (s.sent).toNat (s.sent + chunkN s window mss).toNat)),(2,.bool (decide (((max window (-1)) - (flown s)) > (chunkN s window mss))))] hA rfl (by kernel_rfl) (by kernel_rfl) ww) ?_
 refine kA [30] ?_
 refine kSS 30 2 0 (chkL (⟨nextOf s,s.data.extract (s.sent).toNat (s.sent + chunkN s window mss).toNat,decide (((max window (-1)) - (flown s)) > (chunkN s window mss))⟩ : Chk)) rfl ?_
 refine kZ ?_
 refine kS ?_
 refine kQ ?_
 refine kRS 4 [6,11,64] [(6,.p 1 0),(11,.p 2 0),(64,.v (.bool ((s.data.extract (s.sent).toNat (s.sent + chunkN s window mss).toNat).toList == (⟨#[]⟩ : ByteArray).toList)))] ?_
 refine xl_eqS (t' := [(6,.p 1 0),(11,.p 2 0),(64,.v (.bool (chunkN s window mss == 0)))]) (by rw [show ((s.data.extract (s.sent).toNat (s.sent + chunkN s window mss).toNat).toList == (⟨#[]⟩ : ByteArray).toList) = (chunkN s window mss == 0) from hte]) ?_
 refine kP 64 (chunkN s window mss == 0) (fun h16 => ?_) (fun h16 => ?_)
 have h16p := eqT h16
 refine kED [6,11,68] [(68,.v (.bool (!(decide (((max window (-1)) - (flown s)) > (chunkN s window mss))))))] ?_
 refine kC (!(decide (((max window (-1)) - (flown s)) > (chunkN s window mss)))) (fun h17 => ?_) (fun h17 => ?_)
 have h17n := not_t h17
 refine kQ ?_
 refine kOS 0 [6] [(6,.p 1 0)] (.agg (chkL (⟨0,(⟨#[]⟩ : ByteArray),false⟩ : Chk)).toArray) rfl (fun _ _ _ ww hr => act_build [] hr.1 rfl (by kernel_rfl) (by kernel_rfl) ww) ?_
 refine kED [6,7] [(7,.v (.bool false))] ?_
 refine kR ?_
 have hmod : nextChunk s window mss = ((⟨0,(⟨#[]⟩ : ByteArray),false⟩),false) := by first | rfl | (simp [nextChunk,zeroChk,chunkFin, *]; done) | (simp [nextChunk,zeroChk,chunkFin, *]; omega) | grind [nextChunk,zeroChk,chunkFin]
 exact ⟨[.agg (chkL (⟨0,(⟨#[]⟩ : ByteArray),false⟩ : Chk)).toArray,.bool false],by kernel_rfl,fun w' hb hf => by rw [hmod]; exact ⟨rfl,hb⟩⟩
 have h17n := not_f h17
 refine kK ?_
 refine kQ ?_
 refine kEU [6,7] [(7,.v (.bool true))] 1 ⟨89,chkL (⟨nextOf s,s.data.extract (s.sent).toNat (s.sent + chunkN s window mss).toNat,decide (((max window (-1)) - (flown s)) > (chunkN s window mss))⟩ : Chk)⟩ ?_
 refine kR ?_
 have hmod : nextChunk s window mss = ((⟨nextOf s,s.data.extract (s.sent).toNat (s.sent + chunkN s window mss).toNat,decide (((max window (-1)) - (flown s)) > (chunkN s window mss))⟩),true) := by first | rfl | (simp [nextChunk,zeroChk,chunkFin, *]; done) | (simp [nextChunk,zeroChk,chunkFin, *]; omega) | grind [nextChunk,zeroChk,chunkFin]
 exact ⟨[.agg (chkL (⟨nextOf s,s.data.extract (s.sent).toNat (s.sent + chunkN s window mss).toNat,decide (((max window (-1)) - (flown s)) > (chunkN s window mss))⟩ : Chk)).toArray,.bool true],by kernel_rfl,fun w' hb hf => by rw [hmod]; exact ⟨rfl,hb⟩⟩
 have h16p := eqF h16
 refine kED [6,11,68] [(68,.v (.bool false))] ?_
 refine kN ?_
 refine kK ?_
 refine kQ ?_
 refine kEU [6,7] [(7,.v (.bool true))] 1 ⟨89,chkL (⟨nextOf s,s.data.extract (s.sent).toNat (s.sent + chunkN s window mss).toNat,decide (((max window (-1)) - (flown s)) > (chunkN s window mss))⟩ : Chk)⟩ ?_
 refine kR ?_
 have hmod : nextChunk s window mss = ((⟨nextOf s,s.data.extract (s.sent).toNat (s.sent + chunkN s window mss).toNat,decide (((max window (-1)) - (flown s)) > (chunkN s window mss))⟩),true) := by first | rfl | (simp [nextChunk,zeroChk,chunkFin, *]; done) | (simp [nextChunk,zeroChk,chunkFin, *]; omega) | grind [nextChunk,zeroChk,chunkFin]
 exact ⟨[.agg (chkL (⟨nextOf s,s.data.extract (s.sent).toNat (s.sent + chunkN s window mss).toNat,decide (((max window (-1)) - (flown s)) > (chunkN s window mss))⟩ : Chk)).toArray,.bool true],by kernel_rfl,fun w' hb hf => by rw [hmod]; exact ⟨rfl,hb⟩⟩
 have h15p := eqF h15
 refine kTS [24,25,26,27] [59,33,11,36,6] 2 [(59,.v (.bool false)),(33,.v (.int .i64 (nextOf s))),(11,.p 2 0),(36,.v (.string (s.data.extract (s.sent).toNat (s.sent + chunkN s window mss).toNat))),(6,.p 1 0)] ?_
 refine kX 28 (.agg (chkL (⟨nextOf s,s.data.extract (s.sent).toNat (s.sent + chunkN s window mss).toNat,false⟩ : Chk)).toArray) rfl (fun _ _ ww hA => act_build [(0,.int .i64 (nextOf s)),(1,.string (s.data.extract (s.sent).toNat (s.sent + chunkN s window mss).toNat)),(2,.bool false)] hA rfl (by kernel_rfl) (by kernel_rfl) ww) ?_
 refine kA [30] ?_
 refine kSS 30 2 0 (chkL (⟨nextOf s,s.data.extract (s.sent).toNat (s.sent + chunkN s window mss).toNat,false⟩ : Chk)) rfl ?_
 refine kZ ?_
 refine kS ?_
 refine kQ ?_
 refine kRS 4 [6,11,64] [(6,.p 1 0),(11,.p 2 0),(64,.v (.bool ((s.data.extract (s.sent).toNat (s.sent + chunkN s window mss).toNat).toList == (⟨#[]⟩ : ByteArray).toList)))] ?_
 refine xl_eqS (t' := [(6,.p 1 0),(11,.p 2 0),(64,.v (.bool (chunkN s window mss == 0)))]) (by rw [show ((s.data.extract (s.sent).toNat (s.sent + chunkN s window mss).toNat).toList == (⟨#[]⟩ : ByteArray).toList) = (chunkN s window mss == 0) from hte]) ?_
 refine kP 64 (chunkN s window mss == 0) (fun h18 => ?_) (fun h18 => ?_)
 have h18p := eqT h18
 refine kED [6,11,68] [(68,.v (.bool true))] ?_
 refine kT ?_
 refine kQ ?_
 refine kOS 0 [6] [(6,.p 1 0)] (.agg (chkL (⟨0,(⟨#[]⟩ : ByteArray),false⟩ : Chk)).toArray) rfl (fun _ _ _ ww hr => act_build [] hr.1 rfl (by kernel_rfl) (by kernel_rfl) ww) ?_
 refine kED [6,7] [(7,.v (.bool false))] ?_
 refine kR ?_
 have hmod : nextChunk s window mss = ((⟨0,(⟨#[]⟩ : ByteArray),false⟩),false) := by first | rfl | (simp [nextChunk,zeroChk,chunkFin, *]; done) | (simp [nextChunk,zeroChk,chunkFin, *]; omega) | grind [nextChunk,zeroChk,chunkFin]
 exact ⟨[.agg (chkL (⟨0,(⟨#[]⟩ : ByteArray),false⟩ : Chk)).toArray,.bool false],by kernel_rfl,fun w' hb hf => by rw [hmod]; exact ⟨rfl,hb⟩⟩
 have h18p := eqF h18
 refine kED [6,11,68] [(68,.v (.bool false))] ?_
 refine kN ?_
 refine kK ?_
 refine kQ ?_
 refine kEU [6,7] [(7,.v (.bool true))] 1 ⟨89,chkL (⟨nextOf s,s.data.extract (s.sent).toNat (s.sent + chunkN s window mss).toNat,false⟩ : Chk)⟩ ?_
 refine kR ?_
 have hmod : nextChunk s window mss = ((⟨nextOf s,s.data.extract (s.sent).toNat (s.sent + chunkN s window mss).toNat,false⟩),true) := by first | rfl | (simp [nextChunk,zeroChk,chunkFin, *]; done) | (simp [nextChunk,zeroChk,chunkFin, *]; omega) | grind [nextChunk,zeroChk,chunkFin]
 exact ⟨[.agg (chkL (⟨nextOf s,s.data.extract (s.sent).toNat (s.sent + chunkN s window mss).toNat,false⟩ : Chk)).toArray,.bool true],by kernel_rfl,fun w' hb hf => by rw [hmod]; exact ⟨rfl,hb⟩⟩
 have h14n := not_f h14
 refine kTS [18,19,20,21,22,23,24,25,26,27] [59,33,11,36,6] 2 [(59,.v (.bool false)),(33,.v (.int .i64 (nextOf s))),(11,.p 2 0),(36,.v (.string (s.data.extract (s.sent).toNat (s.sent + chunkN s window mss).toNat))),(6,.p 1 0)] ?_
 refine kX 28 (.agg (chkL (⟨nextOf s,s.data.extract (s.sent).toNat (s.sent + chunkN s window mss).toNat,false⟩ : Chk)).toArray) rfl (fun _ _ ww hA => act_build [(0,.int .i64 (nextOf s)),(1,.string (s.data.extract (s.sent).toNat (s.sent + chunkN s window mss).toNat)),(2,.bool false)] hA rfl (by kernel_rfl) (by kernel_rfl) ww) ?_
 refine kA [30] ?_
 refine kSS 30 2 0 (chkL (⟨nextOf s,s.data.extract (s.sent).toNat (s.sent + chunkN s window mss).toNat,false⟩ : Chk)) rfl ?_
 refine kZ ?_
 refine kS ?_
 refine kQ ?_
 refine kRS 4 [6,11,64] [(6,.p 1 0),(11,.p 2 0),(64,.v (.bool ((s.data.extract (s.sent).toNat (s.sent + chunkN s window mss).toNat).toList == (⟨#[]⟩ : ByteArray).toList)))] ?_
 refine xl_eqS (t' := [(6,.p 1 0),(11,.p 2 0),(64,.v (.bool (chunkN s window mss == 0)))]) (by rw [show ((s.data.extract (s.sent).toNat (s.sent + chunkN s window mss).toNat).toList == (⟨#[]⟩ : ByteArray).toList) = (chunkN s window mss == 0) from hte]) ?_
 refine kP 64 (chunkN s window mss == 0) (fun h19 => ?_) (fun h19 => ?_)
 have h19p := eqT h19
 refine kED [6,11,68] [(68,.v (.bool true))] ?_
 refine kT ?_
 refine kQ ?_
 refine kOS 0 [6] [(6,.p 1 0)] (.agg (chkL (⟨0,(⟨#[]⟩ : ByteArray),false⟩ : Chk)).toArray) rfl (fun _ _ _ ww hr => act_build [] hr.1 rfl (by kernel_rfl) (by kernel_rfl) ww) ?_
 refine kED [6,7] [(7,.v (.bool false))] ?_
 refine kR ?_
 have hmod : nextChunk s window mss = ((⟨0,(⟨#[]⟩ : ByteArray),false⟩),false) := by first | rfl | (simp [nextChunk,zeroChk,chunkFin, *]; done) | (simp [nextChunk,zeroChk,chunkFin, *]; omega) | grind [nextChunk,zeroChk,chunkFin]
 exact ⟨[.agg (chkL (⟨0,(⟨#[]⟩ : ByteArray),false⟩ : Chk)).toArray,.bool false],by kernel_rfl,fun w' hb hf => by rw [hmod]; exact ⟨rfl,hb⟩⟩
 have h19p := eqF h19
 refine kED [6,11,68] [(68,.v (.bool false))] ?_
 refine kN ?_
 refine kK ?_
 refine kQ ?_
 refine kEU [6,7] [(7,.v (.bool true))] 1 ⟨89,chkL (⟨nextOf s,s.data.extract (s.sent).toNat (s.sent + chunkN s window mss).toNat,false⟩ : Chk)⟩ ?_
 refine kR ?_
 have hmod : nextChunk s window mss = ((⟨nextOf s,s.data.extract (s.sent).toNat (s.sent + chunkN s window mss).toNat,false⟩),true) := by first | rfl | (simp [nextChunk,zeroChk,chunkFin, *]; done) | (simp [nextChunk,zeroChk,chunkFin, *]; omega) | grind [nextChunk,zeroChk,chunkFin]
 exact ⟨[.agg (chkL (⟨nextOf s,s.data.extract (s.sent).toNat (s.sent + chunkN s window mss).toNat,false⟩ : Chk)).toArray,.bool true],by kernel_rfl,fun w' hb hf => by rw [hmod]; exact ⟨rfl,hb⟩⟩
 have h13n := not_f h13
 refine kTS [13,14,15,16,17,18,19,20,21,22,23,24,25,26,27] [59,33,11,36,6] 2 [(59,.v (.bool false)),(33,.v (.int .i64 (nextOf s))),(11,.p 2 0),(36,.v (.string (s.data.extract (s.sent).toNat (s.sent + chunkN s window mss).toNat))),(6,.p 1 0)] ?_
 refine kX 28 (.agg (chkL (⟨nextOf s,s.data.extract (s.sent).toNat (s.sent + chunkN s window mss).toNat,false⟩ : Chk)).toArray) rfl (fun _ _ ww hA => act_build [(0,.int .i64 (nextOf s)),(1,.string (s.data.extract (s.sent).toNat (s.sent + chunkN s window mss).toNat)),(2,.bool false)] hA rfl (by kernel_rfl) (by kernel_rfl) ww) ?_
 refine kA [30] ?_
 refine kSS 30 2 0 (chkL (⟨nextOf s,s.data.extract (s.sent).toNat (s.sent + chunkN s window mss).toNat,false⟩ : Chk)) rfl ?_
 refine kZ ?_
 refine kS ?_
 refine kQ ?_
 refine kRS 4 [6,11,64] [(6,.p 1 0),(11,.p 2 0),(64,.v (.bool ((s.data.extract (s.sent).toNat (s.sent + chunkN s window mss).toNat).toList == (⟨#[]⟩ : ByteArray).toList)))] ?_
 refine xl_eqS (t' := [(6,.p 1 0),(11,.p 2 0),(64,.v (.bool (chunkN s window mss == 0)))]) (by rw [show ((s.data.extract (s.sent).toNat (s.sent + chunkN s window mss).toNat).toList == (⟨#[]⟩ : ByteArray).toList) = (chunkN s window mss == 0) from hte]) ?_
 refine kP 64 (chunkN s window mss == 0) (fun h20 => ?_) (fun h20 => ?_)
 have h20p := eqT h20
 refine kED [6,11,68] [(68,.v (.bool true))] ?_
 refine kT ?_
 refine kQ ?_
 refine kOS 0 [6] [(6,.p 1 0)] (.agg (chkL (⟨0,(⟨#[]⟩ : ByteArray),false⟩ : Chk)).toArray) rfl (fun _ _ _ ww hr => act_build [] hr.1 rfl (by kernel_rfl) (by kernel_rfl) ww) ?_
 refine kED [6,7] [(7,.v (.bool false))] ?_
 refine kR ?_
 have hmod : nextChunk s window mss = ((⟨0,(⟨#[]⟩ : ByteArray),false⟩),false) := by first | rfl | (simp [nextChunk,zeroChk,chunkFin, *]; done) | (simp [nextChunk,zeroChk,chunkFin, *]; omega) | grind [nextChunk,zeroChk,chunkFin]
 exact ⟨[.agg (chkL (⟨0,(⟨#[]⟩ : ByteArray),false⟩ : Chk)).toArray,.bool false],by kernel_rfl,fun w' hb hf => by rw [hmod]; exact ⟨rfl,hb⟩⟩
 have h20p := eqF h20
 refine kED [6,11,68] [(68,.v (.bool false))] ?_
 refine kN ?_
 refine kK ?_
 refine kQ ?_
 refine kEU [6,7] [(7,.v (.bool true))] 1 ⟨89,chkL (⟨nextOf s,s.data.extract (s.sent).toNat (s.sent + chunkN s window mss).toNat,false⟩ : Chk)⟩ ?_
 refine kR ?_
 have hmod : nextChunk s window mss = ((⟨nextOf s,s.data.extract (s.sent).toNat (s.sent + chunkN s window mss).toNat,false⟩),true) := by first | rfl | (simp [nextChunk,zeroChk,chunkFin, *]; done) | (simp [nextChunk,zeroChk,chunkFin, *]; omega) | grind [nextChunk,zeroChk,chunkFin]
 exact ⟨[.agg (chkL (⟨nextOf s,s.data.extract (s.sent).toNat (s.sent + chunkN s window mss).toNat,false⟩ : Chk)).toArray,.bool true],by kernel_rfl,fun w' hb hf => by rw [hmod]; exact ⟨rfl,hb⟩⟩
 refine kTS [8,9,10,11,12,13,14,15,16,17,18,19,20,21,22,23,24,25,26,27] [59,33,11,36,6] 2 [(59,.v (.bool false)),(33,.v (.int .i64 (nextOf s))),(11,.p 2 0),(36,.v (.string (s.data.extract (s.sent).toNat (s.sent + chunkN s window mss).toNat))),(6,.p 1 0)] ?_
 refine kX 28 (.agg (chkL (⟨nextOf s,s.data.extract (s.sent).toNat (s.sent + chunkN s window mss).toNat,false⟩ : Chk)).toArray) rfl (fun _ _ ww hA => act_build [(0,.int .i64 (nextOf s)),(1,.string (s.data.extract (s.sent).toNat (s.sent + chunkN s window mss).toNat)),(2,.bool false)] hA rfl (by kernel_rfl) (by kernel_rfl) ww) ?_
 refine kA [30] ?_
 refine kSS 30 2 0 (chkL (⟨nextOf s,s.data.extract (s.sent).toNat (s.sent + chunkN s window mss).toNat,false⟩ : Chk)) rfl ?_
 refine kZ ?_
 refine kS ?_
 refine kQ ?_
 refine kRS 4 [6,11,64] [(6,.p 1 0),(11,.p 2 0),(64,.v (.bool ((s.data.extract (s.sent).toNat (s.sent + chunkN s window mss).toNat).toList == (⟨#[]⟩ : ByteArray).toList)))] ?_
 refine xl_eqS (t' := [(6,.p 1 0),(11,.p 2 0),(64,.v (.bool (chunkN s window mss == 0)))]) (by rw [show ((s.data.extract (s.sent).toNat (s.sent + chunkN s window mss).toNat).toList == (⟨#[]⟩ : ByteArray).toList) = (chunkN s window mss == 0) from hte]) ?_
 refine kP 64 (chunkN s window mss == 0) (fun h21 => ?_) (fun h21 => ?_)
 have h21p := eqT h21
 refine kED [6,11,68] [(68,.v (.bool true))] ?_
 refine kT ?_
 refine kQ ?_
 refine kOS 0 [6] [(6,.p 1 0)] (.agg (chkL (⟨0,(⟨#[]⟩ : ByteArray),false⟩ : Chk)).toArray) rfl (fun _ _ _ ww hr => act_build [] hr.1 rfl (by kernel_rfl) (by kernel_rfl) ww) ?_
 refine kED [6,7] [(7,.v (.bool false))] ?_
 refine kR ?_
 have hmod : nextChunk s window mss = ((⟨0,(⟨#[]⟩ : ByteArray),false⟩),false) := by first | rfl | (simp [nextChunk,zeroChk,chunkFin, *]; done) | (simp [nextChunk,zeroChk,chunkFin, *]; omega) | grind [nextChunk,zeroChk,chunkFin]
 exact ⟨[.agg (chkL (⟨0,(⟨#[]⟩ : ByteArray),false⟩ : Chk)).toArray,.bool false],by kernel_rfl,fun w' hb hf => by rw [hmod]; exact ⟨rfl,hb⟩⟩
 have h21p := eqF h21
 refine kED [6,11,68] [(68,.v (.bool false))] ?_
 refine kN ?_
 refine kK ?_
 refine kQ ?_
 refine kEU [6,7] [(7,.v (.bool true))] 1 ⟨89,chkL (⟨nextOf s,s.data.extract (s.sent).toNat (s.sent + chunkN s window mss).toNat,false⟩ : Chk)⟩ ?_
 refine kR ?_
 have hmod : nextChunk s window mss = ((⟨nextOf s,s.data.extract (s.sent).toNat (s.sent + chunkN s window mss).toNat,false⟩),true) := by first | rfl | (simp [nextChunk,zeroChk,chunkFin, *]; done) | (simp [nextChunk,zeroChk,chunkFin, *]; omega) | grind [nextChunk,zeroChk,chunkFin]
 exact ⟨[.agg (chkL (⟨nextOf s,s.data.extract (s.sent).toNat (s.sent + chunkN s window mss).toNat,false⟩ : Chk)).toArray,.bool true],by kernel_rfl,fun w' hb hf => by rw [hmod]; exact ⟨rfl,hb⟩⟩
theorem yiSentOff_c (s : Snd) (c : Chk) (w : World)  : Calls Tryz.prog 90 #[.agg (sndL s).toArray, .agg (chkL c).toArray] w fun e w' => e = .returned (.agg (sndL (sentOff s c)).toArray) ∧ Below w.heap.size w w' := by
 have hsf := sentS_fin s c
 refine x_calls (args := [.agg (sndL s).toArray,.agg (chkL c).toArray]) (fn := Tryz.f90) [] Tryz.func90 rfl Tryz.ntmps90 rfl (by simp) ?_
 refine kQ ?_
 refine kEF [2,3,4] ⟨[(2,.p 0 0),(3,.p 1 0),(4,.p 2 0)],[⟨27,sndL s⟩,⟨89,chkL c⟩,⟨27,sndZ⟩],[],[]⟩ ?_
 refine kQ ?_
 refine kEF [2,3,4,5] ⟨[(2,.p 0 0),(3,.p 1 0),(4,.p 2 0),(5,.p 3 0)],[⟨27,sndL s⟩,⟨89,chkL c⟩,⟨27,sndZ⟩,⟨27,sndL s⟩],[],[]⟩ ?_
 refine kQ ?_
 refine kEF [2,3,4,5] ⟨[(2,.p 0 0),(3,.p 1 0),(4,.p 2 0),(5,.p 3 0)],[⟨27,sndL s⟩,⟨89,chkL c⟩,⟨27,sndZ⟩,⟨27,sndL { s with sent := IntKind.i64.wrap (s.sent + (c.text.size : Int)) }⟩],[],[]⟩ ?_
 refine kS ?_
 refine xw_join ⟨[(2,.p 0 0),(3,.p 1 0),(4,.p 2 0),(5,.p 3 0)],[⟨27,sndL s⟩,⟨89,chkL c⟩,⟨27,sndZ⟩,⟨27,sndL { s with sent := IntKind.i64.wrap (s.sent + (c.text.size : Int)),finSent := s.finSent || c.fin }⟩],[],[]⟩ ?_ ?_
 refine kG ?_
 refine kRS 3 [2,3,4,5,16] [(2,.p 0 0),(3,.p 1 0),(4,.p 2 0),(5,.p 3 0),(16,.v (.bool s.finSent))] ?_
 refine kP 16 (s.finSent) (fun h1 => ?_) (fun h1 => ?_)
 refine kEF [2,3,4,5] ⟨[(2,.p 0 0),(3,.p 1 0),(4,.p 2 0),(5,.p 3 0)],[⟨27,sndL s⟩,⟨89,chkL c⟩,⟨27,sndZ⟩,⟨27,sndL { s with sent := IntKind.i64.wrap (s.sent + (c.text.size : Int)),finSent := true }⟩],[],[]⟩ ?_
 show Wk _ _
 try rw [h1]
 exact kF 4 0 [2,3,4,5]
 refine kEF [2,3,4,5] ⟨[(2,.p 0 0),(3,.p 1 0),(4,.p 2 0),(5,.p 3 0)],[⟨27,sndL s⟩,⟨89,chkL c⟩,⟨27,sndZ⟩,⟨27,sndL { s with sent := IntKind.i64.wrap (s.sent + (c.text.size : Int)),finSent := c.fin }⟩],[],[]⟩ ?_
 show Wk _ _
 try rw [h1]
 exact kF 4 0 [2,3,4,5]
 refine kS ?_
 refine kS ?_
 refine xw_join ⟨[(2,.p 0 0),(4,.p 2 0),(5,.p 3 0),(41,.v (.bool ((!(senderOk s)) || ((!(senderOk ({ s with sent := IntKind.i64.wrap (s.sent + (c.text.size : Int)),finSent := s.finSent || c.fin }))) || (c.fin && ((!s.fin) || s.done))))))],[⟨27,sndL s⟩,⟨89,chkL c⟩,⟨27,sndZ⟩,⟨27,sndL { s with sent := IntKind.i64.wrap (s.sent + (c.text.size : Int)),finSent := s.finSent || c.fin }⟩],[],[]⟩ ?_ ?_
 refine kG ?_
 refine kCS 1 [2,3,4,5,21] [(2,.p 0 0),(3,.p 1 0),(4,.p 2 0),(5,.p 3 0),(21,.v (.agg (sndL s).toArray))] 81 [.agg (sndL s).toArray] (some 22) rfl (xc_b fun ww hf => iSenderOk_c s.una s.data s.sent s.fin s.finSent s.done ww ) ?_
 intro _
 refine kRS 2 [2,3,4,5,24] [(2,.p 0 0),(3,.p 1 0),(4,.p 2 0),(5,.p 3 0),(24,.v (.bool (!(senderOk s))))] ?_
 refine kP 24 (!(senderOk s)) (fun h2 => ?_) (fun h2 => ?_)
 have h2n := not_t h2
 refine kES [2,4,5,41] [(2,.p 0 0),(4,.p 2 0),(5,.p 3 0),(41,.v (.bool true))] ?_
 show Wk _ _
 try rw [h2]
 exact kF 4 0 [2,4,5,41]
 have h2n := not_f h2
 have h2nb := senderOk_bd (s := s) (by simpa using h2n)
 obtain ⟨h2nb0,h2nb1,h2nb2,h2nb3,h2nb4,h2nb5,h2nb6,h2nb7,h2nb8,h2nb9,h2nb10⟩ := h2nb
 refine kCS 1 [2,3,4,5,24,25] [(2,.p 0 0),(3,.p 1 0),(4,.p 2 0),(5,.p 3 0),(24,.v (.bool false)),(25,.v (.agg (sndL { s with sent := IntKind.i64.wrap (s.sent + (c.text.size : Int)),finSent := s.finSent || c.fin }).toArray))] 81 [.agg (sndL { s with sent := IntKind.i64.wrap (s.sent + (c.text.size : Int)),finSent := s.finSent || c.fin }).toArray] (some 26) rfl (xc_b fun ww hf => iSenderOk_c s.una s.data (IntKind.i64.wrap (s.sent + (c.text.size : Int))) s.fin (s.finSent || c.fin) s.done ww ) ?_
 intro _
 refine kRS 3 [2,3,4,5,29] [(2,.p 0 0),(3,.p 1 0),(4,.p 2 0),(5,.p 3 0),(29,.v (.bool (!(senderOk ({ s with sent := IntKind.i64.wrap (s.sent + (c.text.size : Int)),finSent := s.finSent || c.fin })))))] ?_
 refine kP 29 (!(senderOk ({ s with sent := IntKind.i64.wrap (s.sent + (c.text.size : Int)),finSent := s.finSent || c.fin }))) (fun h3 => ?_) (fun h3 => ?_)
 have h3n := not_t h3
 refine kES [2,4,5,41] [(2,.p 0 0),(4,.p 2 0),(5,.p 3 0),(41,.v (.bool true))] ?_
 show Wk _ _
 try rw [h2]
 try rw [h3]
 exact kF 4 0 [2,4,5,41]
 have h3n := not_f h3
 have h3nb := senderOk_bd (s := ({ s with sent := IntKind.i64.wrap (s.sent + (c.text.size : Int)),finSent := s.finSent || c.fin })) (by simpa using h3n)
 obtain ⟨h3nb0,h3nb1,h3nb2,h3nb3,h3nb4,h3nb5,h3nb6,h3nb7,h3nb8,h3nb9,h3nb10⟩ := h3nb
 refine kRS 3 [2,4,5,29,32] [(2,.p 0 0),(4,.p 2 0),(5,.p 3 0),(29,.v (.bool false)),(32,.v (.bool c.fin))] ?_
 refine kP 32 (c.fin) (fun h4 => ?_) (fun h4 => ?_)
 refine kRS 4 [2,4,5,29,32,36] [(2,.p 0 0),(4,.p 2 0),(5,.p 3 0),(29,.v (.bool false)),(32,.v (.bool true)),(36,.v (.bool (!s.fin)))] ?_
 refine kP 36 (!s.fin) (fun h5 => ?_) (fun h5 => ?_)
 have h5n := not_t h5
 refine kES [2,4,5,41] [(2,.p 0 0),(4,.p 2 0),(5,.p 3 0),(41,.v (.bool true))] ?_
 show Wk _ _
 try rw [h2]
 try rw [h3]
 try rw [h4]
 try rw [h5]
 exact kF 4 0 [2,4,5,41]
 have h5n := not_f h5
 refine kES [2,4,5,41] [(2,.p 0 0),(4,.p 2 0),(5,.p 3 0),(41,.v (.bool s.done))] ?_
 show Wk _ _
 try rw [h2]
 try rw [h3]
 try rw [h4]
 try rw [h5]
 exact kF 4 0 [2,4,5,41]
 refine kES [2,4,5,41] [(2,.p 0 0),(4,.p 2 0),(5,.p 3 0),(41,.v (.bool false))] ?_
 show Wk _ _
 try rw [h2]
 try rw [h3]
 try rw [h4]
 exact kF 4 0 [2,4,5,41]
 refine kC ((!(senderOk s)) || ((!(senderOk ({ s with sent := IntKind.i64.wrap (s.sent + (c.text.size : Int)),finSent := s.finSent || c.fin }))) || (c.fin && ((!s.fin) || s.done)))) (fun h6 => ?_) (fun h6 => ?_)
 refine kQ ?_
 refine kEF [4] ⟨[(4,.p 2 0)],[⟨27,sndL s⟩,⟨89,chkL c⟩,⟨27,sndL s⟩,⟨27,sndL { s with sent := IntKind.i64.wrap (s.sent + (c.text.size : Int)),finSent := s.finSent || c.fin }⟩],[],[]⟩ ?_
 refine kR ?_
 have hmod : sentOff s c = s := by first | rfl | (simp [sentOff,sentS, *]; done) | grind [sentOff,sentS]
 exact ⟨[.agg (sndL s).toArray],by kernel_rfl,fun w' hb hf => by rw [hmod]; exact ⟨rfl,hb⟩⟩
 have h6l := or_l h6
 have h6ln := not_f h6l
 have h6lnb := senderOk_bd (s := s) (by simpa using h6ln)
 obtain ⟨h6lnb0,h6lnb1,h6lnb2,h6lnb3,h6lnb4,h6lnb5,h6lnb6,h6lnb7,h6lnb8,h6lnb9,h6lnb10⟩ := h6lnb
 have h6r := or_r h6
 have h6rl := or_l h6r
 have h6rln := not_f h6rl
 have h6rlnb := senderOk_bd (s := ({ s with sent := IntKind.i64.wrap (s.sent + (c.text.size : Int)),finSent := s.finSent || c.fin })) (by simpa using h6rln)
 obtain ⟨h6rlnb0,h6rlnb1,h6rlnb2,h6rlnb3,h6rlnb4,h6rlnb5,h6rlnb6,h6rlnb7,h6rlnb8,h6rlnb9,h6rlnb10⟩ := h6rlnb
 have h6rr := or_r h6r
 refine kK ?_
 refine kQ ?_
 refine kEF [4] ⟨[(4,.p 2 0)],[⟨27,sndL s⟩,⟨89,chkL c⟩,⟨27,sndL { s with sent := IntKind.i64.wrap (s.sent + (c.text.size : Int)),finSent := s.finSent || c.fin }⟩,⟨27,sndL { s with sent := IntKind.i64.wrap (s.sent + (c.text.size : Int)),finSent := s.finSent || c.fin }⟩],[],[]⟩ ?_
 refine kR ?_
 have hmod : sentOff s c = ({ s with sent := IntKind.i64.wrap (s.sent + (c.text.size : Int)),finSent := s.finSent || c.fin }) := by first | rfl | (simp [sentOff,sentS, *]; done) | grind [sentOff,sentS]
 exact ⟨[.agg (sndL { s with sent := IntKind.i64.wrap (s.sent + (c.text.size : Int)),finSent := s.finSent || c.fin }).toArray],by kernel_rfl,fun w' hb hf => by rw [hmod]; exact ⟨rfl,hb⟩⟩
theorem yiQueued_c (s : Snd) (text : ByteArray) (w : World) (hts : text.size ≤ 4611686018427387904) : Calls Tryz.prog 84 #[.agg (sndL s).toArray, .string text] w fun e w' => e = .returned (.tuple #[.agg (sndL (queued s text).1).toArray, .int .i64 ((queued s text).2)]) ∧ Below w.heap.size w w' := by
 refine x_calls (args := [.agg (sndL s).toArray,.string text]) (fn := Tryz.f84) [] Tryz.func84 rfl Tryz.ntmps84 rfl (by simp) ?_
 refine kQ ?_
 refine kEF [1,2,4] ⟨[(1,.v (.string text)),(2,.p 0 0),(4,.p 1 0)],[⟨27,sndL s⟩,⟨27,sndZ⟩],[],[]⟩ ?_
 refine kS ?_
 refine kQ ?_
 refine kCD 1 [1,2,4,7] [(7,.v (.agg (sndL s).toArray))] 81 [.agg (sndL s).toArray] (some 8) rfl (xc_b fun ww hf => iSenderOk_c s.una s.data s.sent s.fin s.finSent s.done ww ) ?_
 intro _
 refine kRD 2 [1,2,4,10] [(10,.v (.bool (!(senderOk s))))] ?_
 refine kP 10 (!(senderOk s)) (fun h1 => ?_) (fun h1 => ?_)
 have h1n := not_t h1
 refine kED [1,2,4,13] [(13,.v (.bool true))] ?_
 refine kT ?_
 refine kQ ?_
 refine kEU [4,5] [(5,.v (.int .i64 0))] 1 ⟨27,sndL s⟩ ?_
 refine kR ?_
 have hmod : queued s text = (s,0) := by first | rfl | (simp [queued, *]; done) | grind [queued]
 exact ⟨[.agg (sndL s).toArray,.int .i64 0],by kernel_rfl,fun w' hb hf => by rw [hmod]; exact ⟨rfl,hb⟩⟩
 have h1n := not_f h1
 have h1nb := senderOk_bd (s := s) (by simpa using h1n)
 obtain ⟨h1nb0,h1nb1,h1nb2,h1nb3,h1nb4,h1nb5,h1nb6,h1nb7,h1nb8,h1nb9,h1nb10⟩ := h1nb
 refine kED [1,2,4,13] [(13,.v (.bool s.fin))] ?_
 refine kC (s.fin) (fun h2 => ?_) (fun h2 => ?_)
 refine kQ ?_
 refine kEU [4,5] [(5,.v (.int .i64 0))] 1 ⟨27,sndL s⟩ ?_
 refine kR ?_
 have hmod : queued s text = (s,0) := by first | rfl | (simp [queued, *]; done) | grind [queued]
 exact ⟨[.agg (sndL s).toArray,.int .i64 0],by kernel_rfl,fun w' hb hf => by rw [hmod]; exact ⟨rfl,hb⟩⟩
 refine kK ?_
 refine kQ ?_
 refine kOD 6 [1,2,4,16,20] [(16,.v (.int .i64 (text.size : Int))),(20,.v (.int .i64 (IntKind.i64.wrap (48 - (s.data.size : Int)))))] (.int .i64 (min (text.size : Int) (IntKind.i64.wrap (48 - (s.data.size : Int))))) rfl (fun _ _ _ ww hr => act_min2 hr.1 rfl rfl rfl rfl rfl ww) ?_
 refine kRS 1 [1,2,4,6] [(1,.v (.string text)),(2,.p 0 0),(4,.p 1 0),(6,.v (.int .i64 (min (text.size : Int) (IntKind.i64.wrap (48 - (s.data.size : Int))))))] ?_
 refine xl_eqS (t' := [(1,.v (.string text)),(2,.p 0 0),(4,.p 1 0),(6,.v (.int .i64 (min (text.size : Int) (48 - (s.data.size : Int)))))]) (by rw [show (IntKind.i64.wrap (48 - (s.data.size : Int))) = (48 - (s.data.size : Int)) from wrap_id (by omega) (by omega)]) ?_
 refine kED [1,2,4,6] [] ?_
 refine kS ?_
 refine xe_region [false,true] (by kernel_rfl) (fun ρ σ => ?_)
 refine kTS [0,2,3] [25,24,22,2,4,6] 5 [(25,.v (.int .i64 (min (text.size : Int) (48 - (s.data.size : Int))))),(24,.v (.string text)),(22,.p 0 1),(2,.p 0 0),(4,.p 1 0),(6,.v (.int .i64 (min (text.size : Int) (48 - (s.data.size : Int)))))] ?_
 refine kX 4 (.string (text.extract 0 (min (text.size : Int) (48 - (s.data.size : Int))).toNat)) rfl (fun _ _ ww hA => act_slS0 (min (text.size : Int) (48 - (s.data.size : Int))) hA rfl (by kernel_rfl) rfl rfl (by omega) (by omega) ww) ?_
 refine kA [1] ?_
 refine kSV 1 (.v (.string s.data)) rfl ?_
 refine kX 5 (.string (s.data ++ (text.extract 0 (min (text.size : Int) (48 - (s.data.size : Int))).toNat))) rfl (fun _ _ ww hA => act_bin hA rfl (by kernel_rfl) (by kernel_rfl) (str_add (by first | omega | (simp only [ByteArray.size_extract]; omega)) ww)) ?_
 refine kTS [6] [28,27,2,4,6] 1 [(28,.p 0 1),(27,.v (.string (s.data ++ (text.extract 0 (min (text.size : Int) (48 - (s.data.size : Int))).toNat)))),(2,.p 0 0),(4,.p 1 0),(6,.v (.int .i64 (min (text.size : Int) (48 - (s.data.size : Int)))))] ?_
 refine kA [7] ?_
 refine kSS 7 0 1 [.string (s.data ++ (text.extract 0 (min (text.size : Int) (48 - (s.data.size : Int))).toNat))] rfl ?_
 refine kZ ?_
 refine kQ ?_
 refine kEU [4,5] [(5,.v (.int .i64 (min (text.size : Int) (48 - (s.data.size : Int)))))] 1 ⟨27,sndL { s with data := s.data ++ (text.extract 0 (min (text.size : Int) (48 - (s.data.size : Int))).toNat) }⟩ ?_
 refine kR ?_
 have hmod : queued s text = (({ s with data := s.data ++ (text.extract 0 (min (text.size : Int) (48 - (s.data.size : Int))).toNat) }),(min (text.size : Int) (48 - (s.data.size : Int)))) := by first | rfl | (simp [queued, *]; done) | grind [queued]
 exact ⟨[.agg (sndL { s with data := s.data ++ (text.extract 0 (min (text.size : Int) (48 - (s.data.size : Int))).toNat) }).toArray,.int .i64 (min (text.size : Int) (48 - (s.data.size : Int)))],by kernel_rfl,fun w' hb hf => by rw [hmod]; exact ⟨rfl,hb⟩⟩
theorem ysPump_c (c : Con) (c_r_heldV : Value) (window : Int) (w : World) (hl_c_r_heldV : Sl w c_r_heldV 2 (c.r.held.map pceCells)) (hkn : c.r.held.length ≤ 1048576)(hm : ∀ p ∈ c.r.held, p.text.size ≤ 1048576) (hsz : c.r.data.size ≤ 4611686018427387904) (hwi : -9223372036854775808 ≤ window ∧ window ≤ 9223372036854775807) (B : Nat) (hB : B ≤ w.heap.size) : Calls Tryz.prog 37 #[.agg (conL c c_r_heldV).toArray, .int .i64 window] w fun e w' => XRs w w' e (α := (Option Addr × Nat) × (Option Addr × Nat)) (fun y => .tuple #[.agg (conL (pump c window).1 (.slice y.1.1 ((pump c window).1.r.held.length) y.1.2)).toArray, .slice y.2.1 ((pump c window).2.length) y.2.2]) (fun y => [ownF B (.slice y.1.1 ((pump c window).1.r.held.length) y.1.2) 2 ((pump c window).1.r.held.map pceCells), rowF B 36 13 (.slice y.2.1 ((pump c window).2.length) y.2.2) ((pump c window).2.map segCells)]) := by
 obtain ⟨Acrh,Ccrh,hvcrh⟩ := hl_c_r_heldV.form
 rw [List.length_map] at hvcrh; subst hvcrh
 have hncrh := hl_c_r_heldV.len; rw [List.length_map] at hncrh
 have hqcrh := Sl.capLe hl_c_r_heldV
 refine x_callsA (args := [.agg (conL c (.slice Acrh c.r.held.length Ccrh)).toArray,.int .i64 window]) (fn := Tryz.f37) [slF (.slice Acrh c.r.held.length Ccrh) 2 (c.r.held.map pceCells)] Tryz.func37 rfl Tryz.ntmps37 rfl (by simp only [List.mem_cons,List.not_mem_nil,or_false,forall_eq_or_imp,forall_eq]; exact ⟨rfl,hl_c_r_heldV⟩) ?_
 refine kQ ?_
 refine kEF [1,2,4] ⟨[(1,.v (.int .i64 window)),(2,.p 0 0),(4,.p 1 0)],[⟨34,conL c (.slice Acrh c.r.held.length Ccrh)⟩,⟨34,conZ⟩],[],[slF (.slice Acrh c.r.held.length Ccrh) 2 (c.r.held.map pceCells)]⟩ ?_
 refine kQ ?_
 refine kCD 1 [1,2,4,10] [(10,.v (.agg (conL c (.slice Acrh c.r.held.length Ccrh)).toArray))] 70 [.agg (conL c (.slice Acrh c.r.held.length Ccrh)).toArray] (some 11) rfl (xc_r fun ww hw hf => yl19Copy_c c (.slice Acrh c.r.held.length Ccrh) ww (hf _ m0) (by assumption) w.heap.size hw) ?_
 rintro ⟨v1a,v1c⟩
 refine kEU [1,2,4] [] 0 ⟨34,conL c (.slice v1a c.r.held.length v1c)⟩ ?_
 refine kQ ?_
 refine kHD 0 [1,2,4] [] rfl (hv_build (e := 36) (K := 13) (bytes := 104) [] rfl (by kernel_rfl) (by kernel_rfl) (by kernel_rfl) (by kernel_rfl) (by kernel_rfl) (rs := ([] : List Seg).map segCells) rfl) ?_
 intro g2
 refine kED [1,2,4,6] [(6,.v (.slice (some ⟨g2,0,none⟩) 0 0))] ?_
 refine kS ?_
 refine kQ ?_
 refine kCD 1 [1,2,4,6,13] [(13,.v (.agg (conL c (.slice v1a c.r.held.length v1c)).toArray))] 23 [.agg (conL c (.slice v1a c.r.held.length v1c)).toArray] (some 14) rfl (xc_b fun ww hf => ysConnOk_c c (.slice v1a c.r.held.length v1c) ww (Own.sl (hf _ m1)) (by assumption) (by omega)) ?_
 intro _
 refine kRD 2 [1,2,4,6,16] [(16,.v (.bool (!(conOk c))))] ?_
 refine kP 16 (!(conOk c)) (fun h3 => ?_) (fun h3 => ?_)
 have h3n := not_t h3
 refine kED [1,2,4,6,25] [(25,.v (.bool true))] ?_
 refine kT ?_
 refine kQ ?_
 refine kEU [4,5] [(5,.v (.slice (some ⟨g2,0,none⟩) 0 0))] 1 ⟨34,conL c (.slice v1a c.r.held.length v1c)⟩ ?_
 refine kR ?_
 have hmod : pump c window = (c,([] : List Seg)) := by first | (simp [pump, *]; done) | exact pump_yes hok hs8 hs7 hS hL (by first | exact HT.symm | (unfold tmr; rw [show L.isEmpty = decide (L.length = 0) from by cases L <;> rfl]; simp only [decide_eq_true_eq]; split <;> (try split) <;> omega))
 exact ⟨[.agg (conL c (.slice v1a c.r.held.length v1c)).toArray,.slice (some ⟨g2,0,none⟩) 0 0],by kernel_rfl,fun w' hb hf ha => by rw [hmod]; exact xo2 ((v1a,v1c),(((some ⟨g2,0,none⟩) : Option Addr),0)) rfl rfl (pO (hf _ m1) hB) (pW (hf _ m0) hB) (Apart.sub2 ha (i := 1) (j := 0) rfl rfl (by decide) rfl (fun b h => h) (fun b h => h)) hb⟩
 have h3n := not_f h3
 refine kRD 5 [1,2,4,6,21] [(21,.v (.bool (c.state == 8)))] ?_
 refine kP 21 (c.state == 8) (fun h4 => ?_) (fun h4 => ?_)
 have h4p := eqT h4
 refine kED [1,2,4,6,25] [(25,.v (.bool true))] ?_
 refine kT ?_
 refine kQ ?_
 refine kEU [4,5] [(5,.v (.slice (some ⟨g2,0,none⟩) 0 0))] 1 ⟨34,conL c (.slice v1a c.r.held.length v1c)⟩ ?_
 refine kR ?_
 have hmod : pump c window = (c,([] : List Seg)) := by first | (simp [pump, *]; done) | exact pump_yes hok hs8 hs7 hS hL (by first | exact HT.symm | (unfold tmr; rw [show L.isEmpty = decide (L.length = 0) from by cases L <;> rfl]; simp only [decide_eq_true_eq]; split <;> (try split) <;> omega))
 exact ⟨[.agg (conL c (.slice v1a c.r.held.length v1c)).toArray,.slice (some ⟨g2,0,none⟩) 0 0],by kernel_rfl,fun w' hb hf ha => by rw [hmod]; exact xo2 ((v1a,v1c),(((some ⟨g2,0,none⟩) : Option Addr),0)) rfl rfl (pO (hf _ m1) hB) (pW (hf _ m0) hB) (Apart.sub2 ha (i := 1) (j := 0) rfl rfl (by decide) rfl (fun b h => h) (fun b h => h)) hb⟩
 have h4p := eqF h4
 refine kED [1,2,4,6,25] [(25,.v (.bool (c.state == 7)))] ?_
 refine kC (c.state == 7) (fun h5 => ?_) (fun h5 => ?_)
 have h5p := eqT h5
 refine kQ ?_
 refine kEU [4,5] [(5,.v (.slice (some ⟨g2,0,none⟩) 0 0))] 1 ⟨34,conL c (.slice v1a c.r.held.length v1c)⟩ ?_
 refine kR ?_
 have hmod : pump c window = (c,([] : List Seg)) := by first | (simp [pump, *]; done) | exact pump_yes hok hs8 hs7 hS hL (by first | exact HT.symm | (unfold tmr; rw [show L.isEmpty = decide (L.length = 0) from by cases L <;> rfl]; simp only [decide_eq_true_eq]; split <;> (try split) <;> omega))
 exact ⟨[.agg (conL c (.slice v1a c.r.held.length v1c)).toArray,.slice (some ⟨g2,0,none⟩) 0 0],by kernel_rfl,fun w' hb hf ha => by rw [hmod]; exact xo2 ((v1a,v1c),(((some ⟨g2,0,none⟩) : Option Addr),0)) rfl rfl (pO (hf _ m1) hB) (pW (hf _ m0) hB) (Apart.sub2 ha (i := 1) (j := 0) rfl rfl (by decide) rfl (fun b h => h) (fun b h => h)) hb⟩
 have h5p := eqF h5
 refine kK ?_
 refine xw_block ?_
 have hok : conOk c = true := by simp_all
 have hs8 : ¬ c.state = 8 := by simp_all
 have hs7 : ¬ c.state = 7 := by simp_all
 refine xw_loopW (α := {x : Snd × List Seg × Int × Option Addr × Nat // (fun (s : Snd) (L : List Seg) (t : Int) (A : Option Addr) (cap : Nat) => (pumpC c.s window (mssO c.o)).1 = (pumpC s window (mssO c.o)).1 ∧ (pumpC c.s window (mssO c.o)).2.map (segOf c) = L ++ (pumpC s window (mssO c.o)).2.map (segOf c) ∧ L.length + meas s ≤ 49 ∧ t = tmr c L) x.1 x.2.1 x.2.2.1 x.2.2.2.1 x.2.2.2.2}) (fun x => (fun (s : Snd) (L : List Seg) (t : Int) (A : Option Addr) (cap : Nat) => (⟨[(1,.v (.int .i64 window)),(2,.p 0 0),(4,.p 1 0),(6,.v (.slice A L.length cap))],[⟨34,conL { c with s := s,timer := t } (.slice v1a c.r.held.length v1c)⟩,⟨34,conZ⟩],[],[rowF w.heap.size 36 13 (.slice A L.length cap) (L.map segCells),ownF w.heap.size (.slice v1a c.r.held.length v1c) 2 (c.r.held.map pceCells),slF (.slice Acrh c.r.held.length Ccrh) 2 (c.r.held.map pceCells)]⟩ : St)) x.1.1 x.1.2.1 x.1.2.2.1 x.1.2.2.2.1 x.1.2.2.2.2) (fun x => (fun (s : Snd) (L : List Seg) (t : Int) (A : Option Addr) (cap : Nat) => meas s) x.1.1 x.1.2.1 x.1.2.2.1 x.1.2.2.2.1 x.1.2.2.2.2) ⟨(c.s,([] : List Seg),c.timer,(some ⟨g2,0,none⟩),0),⟨rfl,rfl,(by have := meas_le (conOk_s hok); simp only [List.length_nil]; omega),rfl⟩⟩ ((wk_pick [0,1,2] [rowF w.heap.size 36 13 (.slice (some ⟨g2,0,none⟩) 0 0) (([] : List Seg).map segCells),ownF w.heap.size (.slice v1a c.r.held.length v1c) 2 (c.r.held.map pceCells),slF (.slice Acrh c.r.held.length Ccrh) 2 (c.r.held.map pceCells)] (by kernel_rfl) (by kernel_rfl)).trans <| kF 2 0 [1,2,4,6]) ?_
 rintro ⟨⟨s,L,t,A,cap⟩,HS,HL,HR,HT⟩
 try dsimp only
 try dsimp only at HS HL HR HT
 refine xw_block ?_
 refine kS ?_
 refine xw_join ⟨[(1,.v (.int .i64 window)),(2,.p 0 0),(4,.p 1 0),(6,.v (.slice A L.length cap)),(7,.p 2 0),(8,.v (.bool ((nextChunk s window (mssO c.o)).2)))],[⟨34,conL { c with s := s,timer := t } (.slice v1a c.r.held.length v1c)⟩,⟨34,conZ⟩,⟨89,chkL (nextChunk s window (mssO c.o)).1⟩],[],[rowF w.heap.size 36 13 (.slice A L.length cap) (L.map segCells),ownF w.heap.size (.slice v1a c.r.held.length v1c) 2 (c.r.held.map pceCells),slF (.slice Acrh c.r.held.length Ccrh) 2 (c.r.held.map pceCells)]⟩ ?_ ?_
 refine xe_region [] (by kernel_rfl) (fun ρ σ => ?_)
 refine kTD [0,1,2,3] [32,31,30,1,2,4,6] 8 [(32,.v (.agg (conL { c with s := s,timer := t } (.slice v1a c.r.held.length v1c)).toArray)),(31,.v (.int .i64 window)),(30,.v (.agg (sndL s).toArray))] ?_
 refine kA [4,9] ⟨?_,?_⟩
 refine kSC 4 92 [.agg (conL { c with s := s,timer := t } (.slice v1a c.r.held.length v1c)).toArray] (some 33) rfl (xc_b fun ww hf => ysMssFor_c ({ c with s := s,timer := t }) (.slice v1a c.r.held.length v1c) ww ) ?_
 intro _
 refine kA [5,9] ⟨?_,?_⟩
 refine kSC 5 91 [.agg (sndL s).toArray,.int .i64 window,.int .i64 (mssO c.o)] (some 34) rfl (xc_b fun ww hf => ysNextChunk_c s window (mssO c.o) ww  (by first | omega | (rw [wrap_id (by omega) (by omega)]; omega))) ?_
 intro _
 refine kTD [6,7,8] [36,35,1,2,4,6] 3 [(36,.v (.bool ((nextChunk s window (mssO c.o)).2))),(35,.v (.agg (chkL (nextChunk s window (mssO c.o)).1).toArray))] ?_
 refine kA [9] ?_
 refine xs_box 9 ⟨89,chkL (⟨0,(⟨#[]⟩ : ByteArray),false⟩ : Chk)⟩ _ rfl (by kernel_rfl) (by kernel_rfl) (by kernel_rfl) (by kernel_rfl) rfl ?_
 refine kA [10] ?_
 refine kSS 10 2 0 (chkL (nextChunk s window (mssO c.o)).1) rfl ?_
 refine kTS [11] [8,7,1,2,4,6] 0 [(8,.v (.bool ((nextChunk s window (mssO c.o)).2))),(7,.p 2 0),(1,.v (.int .i64 window)),(2,.p 0 0),(4,.p 1 0),(6,.v (.slice A L.length cap))] ?_
 refine kZ ?_
 exact kF 3 0 [1,2,4,6,7,8]
 refine xs_box 9 ⟨89,chkL (⟨0,(⟨#[]⟩ : ByteArray),false⟩ : Chk)⟩ _ rfl (by kernel_rfl) (by kernel_rfl) (by kernel_rfl) (by kernel_rfl) rfl ?_
 refine kA [5] ?_
 refine kSC 5 91 [.agg (sndL s).toArray,.int .i64 window,.int .i64 (mssO c.o)] (some 34) rfl (xc_b fun ww hf => ysNextChunk_c s window (mssO c.o) ww  (by first | omega | (rw [wrap_id (by omega) (by omega)]; omega))) ?_
 intro _
 refine kTD [6,7,8] [36,35,7,1,2,4,6] 2 [(36,.v (.bool ((nextChunk s window (mssO c.o)).2))),(35,.v (.agg (chkL (nextChunk s window (mssO c.o)).1).toArray))] ?_
 refine kA [10] ?_
 refine kSS 10 2 0 (chkL (nextChunk s window (mssO c.o)).1) rfl ?_
 refine kTS [11] [8,7,1,2,4,6] 0 [(8,.v (.bool ((nextChunk s window (mssO c.o)).2))),(7,.p 2 0),(1,.v (.int .i64 window)),(2,.p 0 0),(4,.p 1 0),(6,.v (.slice A L.length cap))] ?_
 refine kZ ?_
 exact kF 3 0 [1,2,4,6,7,8]
 refine xs_box 9 ⟨89,chkL (⟨0,(⟨#[]⟩ : ByteArray),false⟩ : Chk)⟩ _ rfl (by kernel_rfl) (by kernel_rfl) (by kernel_rfl) (by kernel_rfl) rfl ?_
 refine kA [4] ?_
 refine kSC 4 92 [.agg (conL { c with s := s,timer := t } (.slice v1a c.r.held.length v1c)).toArray] (some 33) rfl (xc_b fun ww hf => ysMssFor_c ({ c with s := s,timer := t }) (.slice v1a c.r.held.length v1c) ww ) ?_
 intro _
 refine kA [5] ?_
 refine kSC 5 91 [.agg (sndL s).toArray,.int .i64 window,.int .i64 (mssO c.o)] (some 34) rfl (xc_b fun ww hf => ysNextChunk_c s window (mssO c.o) ww  (by first | omega | (rw [wrap_id (by omega) (by omega)]; omega))) ?_
 intro _
 refine kTD [6,7,8] [36,35,7,1,2,4,6] 2 [(36,.v (.bool ((nextChunk s window (mssO c.o)).2))),(35,.v (.agg (chkL (nextChunk s window (mssO c.o)).1).toArray))] ?_
 refine kA [10] ?_
 refine kSS 10 2 0 (chkL (nextChunk s window (mssO c.o)).1) rfl ?_
 refine kTS [11] [8,7,1,2,4,6] 0 [(8,.v (.bool ((nextChunk s window (mssO c.o)).2))),(7,.p 2 0),(1,.v (.int .i64 window)),(2,.p 0 0),(4,.p 1 0),(6,.v (.slice A L.length cap))] ?_
 refine kZ ?_
 exact kF 3 0 [1,2,4,6,7,8]
 refine kS ?_
 refine kQ ?_
 refine kED [1,2,4,6,7,38] [(38,.v (.bool (!((nextChunk s window (mssO c.o)).2))))] ?_
 refine kC (!((nextChunk s window (mssO c.o)).2)) (fun h6 => ?_) (fun h6 => ?_)
 have hno := not_t h6
 have hS := pumpS_end hno HS
 have hL := pumpL_end hno HL
 refine kQ ?_
 refine kEF [4,5] ⟨[(4,.p 1 0),(5,.v (.slice A L.length cap))],[⟨34,conL { c with s := s,timer := t } (.slice v1a c.r.held.length v1c)⟩,⟨34,conL { c with s := s,timer := t } (.slice v1a c.r.held.length v1c)⟩,⟨89,chkL (nextChunk s window (mssO c.o)).1⟩],[],[rowF w.heap.size 36 13 (.slice A L.length cap) (L.map segCells),ownF w.heap.size (.slice v1a c.r.held.length v1c) 2 (c.r.held.map pceCells),slF (.slice Acrh c.r.held.length Ccrh) 2 (c.r.held.map pceCells)]⟩ ?_
 refine kR ?_
 have hmod : pump c window = (({ c with s := s,timer := t }),L) := by first | (simp [pump, *]; done) | exact pump_yes hok hs8 hs7 hS hL (by first | exact HT.symm | (unfold tmr; rw [show L.isEmpty = decide (L.length = 0) from by cases L <;> rfl]; simp only [decide_eq_true_eq]; split <;> (try split) <;> omega))
 exact ⟨[.agg (conL { c with s := s,timer := t } (.slice v1a c.r.held.length v1c)).toArray,.slice A L.length cap],by kernel_rfl,fun w' hb hf ha => by rw [hmod]; exact xo2 ((v1a,v1c),(A,cap)) rfl rfl (pO (hf _ m1) hB) (pW (hf _ m0) hB) (Apart.sub2 ha (i := 1) (j := 0) rfl rfl (by decide) rfl (fun b h => h) (fun b h => h)) hb⟩
 have hyes := not_f h6
 refine kK ?_
 refine kQ ?_
 refine kCS 1 [1,2,4,6,7,41] [(1,.v (.int .i64 window)),(2,.p 0 0),(4,.p 1 0),(6,.v (.slice A L.length cap)),(7,.p 2 0),(41,.v (.agg (conL { c with s := s,timer := t } (.slice v1a c.r.held.length v1c)).toArray))] 72 [.agg (conL { c with s := s,timer := t } (.slice v1a c.r.held.length v1c)).toArray] (some 42) rfl (xc_b fun ww hf => sAckOf_c c.t.ip c.t.port c.t.my c.state s.una s.data s.sent s.fin s.finSent s.done c.r.next c.r.data c.r.held (.slice v1a c.r.held.length v1c) c.r.fin c.r.done c.window c.most c.o.mss c.o.scale c.o.sack c.o.stamp c.o.val c.o.echo t c.tries ww (by omega)) ?_
 intro _
 refine kEA [1,2,4,6,7,9] [(9,.p 3 0)] [⟨36,[.int .i64 c.t.my,.int .i64 c.t.port,.int .i64 (nextOf s),.int .i64 c.r.next,.int .i64 16,.int .i64 (windowOf c.r),.int .i64 0,.int .i64 (-1),.bool false,.bool false,.int .i64 0,.int .i64 0,.string (⟨#[]⟩ : ByteArray)]⟩] ?_
 refine kQ ?_
 refine kEU [1,2,4,6,7,9] [] 3 ⟨36,[.int .i64 c.t.my,.int .i64 c.t.port,.int .i64 ((nextChunk s window (mssO c.o)).1.seq),.int .i64 c.r.next,.int .i64 16,.int .i64 (windowOf c.r),.int .i64 0,.int .i64 (-1),.bool false,.bool false,.int .i64 0,.int .i64 0,.string (⟨#[]⟩ : ByteArray)]⟩ ?_
 refine kQ ?_
 refine kEU [1,2,4,6,7,9] [] 3 ⟨36,[.int .i64 c.t.my,.int .i64 c.t.port,.int .i64 ((nextChunk s window (mssO c.o)).1.seq),.int .i64 c.r.next,.int .i64 16,.int .i64 (windowOf c.r),.int .i64 0,.int .i64 (-1),.bool false,.bool false,.int .i64 0,.int .i64 0,.string ((nextChunk s window (mssO c.o)).1.text)]⟩ ?_
 refine kS ?_
 refine kQ ?_
 refine kED [1,2,4,6,7,9,51] [(51,.v (.bool (!(((nextChunk s window (mssO c.o)).1.text).toList == (⟨#[]⟩ : ByteArray).toList))))] ?_
 refine kC (!(((nextChunk s window (mssO c.o)).1.text).toList == (⟨#[]⟩ : ByteArray).toList)) (fun h7 => ?_) (fun h7 => ?_)
 have hT : (nextChunk s window (mssO c.o)).1.text.toList.isEmpty = false := by simpa [toList_lit0] using h7
 refine kG ?_
 refine kEU [1,2,4,6,7,9] [] 3 ⟨36,[.int .i64 c.t.my,.int .i64 c.t.port,.int .i64 ((nextChunk s window (mssO c.o)).1.seq),.int .i64 c.r.next,.int .i64 24,.int .i64 (windowOf c.r),.int .i64 0,.int .i64 (-1),.bool false,.bool false,.int .i64 0,.int .i64 0,.string ((nextChunk s window (mssO c.o)).1.text)]⟩ ?_
 refine kS ?_
 refine kQ ?_
 refine kED [1,2,4,6,7,9,57] [(57,.v (.bool ((nextChunk s window (mssO c.o)).1.fin)))] ?_
 refine kC ((nextChunk s window (mssO c.o)).1.fin) (fun h8 => ?_) (fun h8 => ?_)
 have hF := h8
 refine kG ?_
 refine kEU [1,2,4,6,7,9] [] 3 ⟨36,[.int .i64 c.t.my,.int .i64 c.t.port,.int .i64 ((nextChunk s window (mssO c.o)).1.seq),.int .i64 c.r.next,.int .i64 25,.int .i64 (windowOf c.r),.int .i64 0,.int .i64 (-1),.bool false,.bool false,.int .i64 0,.int .i64 0,.string ((nextChunk s window (mssO c.o)).1.text)]⟩ ?_
 refine kQ ?_
 refine kHD 2 [1,2,4,6,7,62,63] [(62,.v (.slice A L.length cap)),(63,.v (.agg #[.int .i64 c.t.my,.int .i64 c.t.port,.int .i64 ((nextChunk s window (mssO c.o)).1.seq),.int .i64 c.r.next,.int .i64 25,.int .i64 (windowOf c.r),.int .i64 0,.int .i64 (-1),.bool false,.bool false,.int .i64 0,.int .i64 0,.string ((nextChunk s window (mssO c.o)).1.text)]))] rfl (hv_build (e := 36) (K := 13) (bytes := 104) [.agg #[.int .i64 c.t.my,.int .i64 c.t.port,.int .i64 ((nextChunk s window (mssO c.o)).1.seq),.int .i64 c.r.next,.int .i64 25,.int .i64 (windowOf c.r),.int .i64 0,.int .i64 (-1),.bool false,.bool false,.int .i64 0,.int .i64 0,.string ((nextChunk s window (mssO c.o)).1.text)]] rfl (by kernel_rfl) (by kernel_rfl) (by kernel_rfl) (by kernel_rfl) (by kernel_rfl) (rs := ([⟨c.t.my,c.t.port,(nextChunk s window (mssO c.o)).1.seq,c.r.next,25,windowOf c.r,⟨0,(-1),false,false,0,0⟩,(nextChunk s window (mssO c.o)).1.text⟩] : List Seg).map segCells) rfl) ?_
 intro g9
 refine kHD 0 [1,2,4,6,7,62,64] [] rfl (hv_append (e := 36) (K := 13) (bytes := 104) (i := 1) (q := (L ++ ([⟨c.t.my,c.t.port,(nextChunk s window (mssO c.o)).1.seq,c.r.next,25,windowOf c.r,⟨0,(-1),false,false,0,0⟩,(nextChunk s window (mssO c.o)).1.text⟩] : List Seg)).length) (new := ([⟨c.t.my,c.t.port,(nextChunk s window (mssO c.o)).1.seq,c.r.next,25,windowOf c.r,⟨0,(-1),false,false,0,0⟩,(nextChunk s window (mssO c.o)).1.text⟩] : List Seg).map segCells) (rs' := (L ++ ([⟨c.t.my,c.t.port,(nextChunk s window (mssO c.o)).1.seq,c.r.next,25,windowOf c.r,⟨0,(-1),false,false,0,0⟩,(nextChunk s window (mssO c.o)).1.text⟩] : List Seg)).map segCells) rfl rfl rfl rfl (by kernel_rfl) (by kernel_rfl) (by kernel_rfl) rfl (by simp) (by rw [List.map_append]) (by simp) (fun ww hf => (rowF_sl (hf (rowF w.heap.size 36 13 (.slice (some ⟨g9,0,none⟩) 1 1) (([⟨c.t.my,c.t.port,(nextChunk s window (mssO c.o)).1.seq,c.r.next,25,windowOf c.r,⟨0,(-1),false,false,0,0⟩,(nextChunk s window (mssO c.o)).1.text⟩] : List Seg).map segCells)) (by simp)))) (by intro r hr; obtain ⟨x,hx,rfl⟩ := List.mem_map.1 hr; exact ⟨rfl,by simp [segCells,Value.oneCell']⟩) (by (try simp only [List.length_map,List.length_append,List.length_cons,List.length_nil,List.length_take,List.length_drop,maxLen]); omega) (by (try simp only [List.length_map,List.length_append,List.length_cons,List.length_nil,List.length_take,List.length_drop,maxLen]); omega)) ?_
 rintro ⟨v10a,v10c⟩
 refine kED [1,2,4,6,7] [(6,.v (.slice v10a ((L ++ ([⟨c.t.my,c.t.port,(nextChunk s window (mssO c.o)).1.seq,c.r.next,25,windowOf c.r,⟨0,(-1),false,false,0,0⟩,(nextChunk s window (mssO c.o)).1.text⟩] : List Seg)).length) v10c))] ?_
 refine kQ ?_
 refine kCS 3 [1,2,4,6,67,68] [(1,.v (.int .i64 window)),(2,.p 0 0),(4,.p 1 0),(6,.v (.slice v10a ((L ++ ([⟨c.t.my,c.t.port,(nextChunk s window (mssO c.o)).1.seq,c.r.next,25,windowOf c.r,⟨0,(-1),false,false,0,0⟩,(nextChunk s window (mssO c.o)).1.text⟩] : List Seg)).length) v10c)),(67,.v (.agg (sndL s).toArray)),(68,.v (.agg (chkL (nextChunk s window (mssO c.o)).1).toArray))] 93 [.agg (sndL s).toArray,.agg (chkL (nextChunk s window (mssO c.o)).1).toArray] (some 69) rfl (xc_b fun ww hf => ysSentOff_c s ((nextChunk s window (mssO c.o)).1) ww  ) ?_
 intro _
 refine kEU [1,2,4,6] [] 0 ⟨34,conL { c with s := (sentOff s ((nextChunk s window (mssO c.o)).1)),timer := t } (.slice v1a c.r.held.length v1c)⟩ ?_
 refine kQ ?_
 refine kED [1,2,4,6,73] [(73,.v (.bool (t == 0)))] ?_
 refine kC (t == 0) (fun h11 => ?_) (fun h11 => ?_)
 have h11p := eqT h11
 refine kG ?_
 refine kEU [1,2,4,6] [] 0 ⟨34,conL { c with s := (sentOff s ((nextChunk s window (mssO c.o)).1)),timer := 3 } (.slice v1a c.r.held.length v1c)⟩ ?_
 have hrow : segOf c (nextChunk s window (mssO c.o)).1 = ⟨c.t.my,c.t.port,(nextChunk s window (mssO c.o)).1.seq,c.r.next,25,windowOf c.r,⟨0,(-1),false,false,0,0⟩,(nextChunk s window (mssO c.o)).1.text⟩ := by simp [segOf,hT,hF]
 exact ⟨⟨(sentOff s (nextChunk s window (mssO c.o)).1,(L ++ ([⟨c.t.my,c.t.port,(nextChunk s window (mssO c.o)).1.seq,c.r.next,25,windowOf c.r,⟨0,(-1),false,false,0,0⟩,(nextChunk s window (mssO c.o)).1.text⟩] : List Seg)),3,v10a,v10c),⟨pumpS_step hyes HS,pumpL_step hyes hrow HL,row_len HR (meas_next hyes),tmr_next HT (by (try dsimp only); split <;> omega)⟩⟩,(wk_pick [0,2,3] [rowF w.heap.size 36 13 (.slice v10a ((L ++ ([⟨c.t.my,c.t.port,(nextChunk s window (mssO c.o)).1.seq,c.r.next,25,windowOf c.r,⟨0,(-1),false,false,0,0⟩,(nextChunk s window (mssO c.o)).1.text⟩] : List Seg)).length) v10c) ((L ++ ([⟨c.t.my,c.t.port,(nextChunk s window (mssO c.o)).1.seq,c.r.next,25,windowOf c.r,⟨0,(-1),false,false,0,0⟩,(nextChunk s window (mssO c.o)).1.text⟩] : List Seg)).map segCells),ownF w.heap.size (.slice v1a c.r.held.length v1c) 2 (c.r.held.map pceCells),slF (.slice Acrh c.r.held.length Ccrh) 2 (c.r.held.map pceCells)] (by kernel_rfl) (by kernel_rfl)).trans <| kF 2 0 [1,2,4,6],by show (fun (s : Snd) (L : List Seg) (t : Int) (A : Option Addr) (cap : Nat) => meas s) (sentOff s (nextChunk s window (mssO c.o)).1) (L ++ ([⟨c.t.my,c.t.port,(nextChunk s window (mssO c.o)).1.seq,c.r.next,25,windowOf c.r,⟨0,(-1),false,false,0,0⟩,(nextChunk s window (mssO c.o)).1.text⟩] : List Seg)) 3 v10a v10c < meas s; exact meas_next hyes⟩
 have h11p := eqF h11
 refine kK ?_
 have hrow : segOf c (nextChunk s window (mssO c.o)).1 = ⟨c.t.my,c.t.port,(nextChunk s window (mssO c.o)).1.seq,c.r.next,25,windowOf c.r,⟨0,(-1),false,false,0,0⟩,(nextChunk s window (mssO c.o)).1.text⟩ := by simp [segOf,hT,hF]
 exact ⟨⟨(sentOff s (nextChunk s window (mssO c.o)).1,(L ++ ([⟨c.t.my,c.t.port,(nextChunk s window (mssO c.o)).1.seq,c.r.next,25,windowOf c.r,⟨0,(-1),false,false,0,0⟩,(nextChunk s window (mssO c.o)).1.text⟩] : List Seg)),t,v10a,v10c),⟨pumpS_step hyes HS,pumpL_step hyes hrow HL,row_len HR (meas_next hyes),tmr_next HT (by (try dsimp only); split <;> omega)⟩⟩,(wk_pick [0,2,3] [rowF w.heap.size 36 13 (.slice v10a ((L ++ ([⟨c.t.my,c.t.port,(nextChunk s window (mssO c.o)).1.seq,c.r.next,25,windowOf c.r,⟨0,(-1),false,false,0,0⟩,(nextChunk s window (mssO c.o)).1.text⟩] : List Seg)).length) v10c) ((L ++ ([⟨c.t.my,c.t.port,(nextChunk s window (mssO c.o)).1.seq,c.r.next,25,windowOf c.r,⟨0,(-1),false,false,0,0⟩,(nextChunk s window (mssO c.o)).1.text⟩] : List Seg)).map segCells),ownF w.heap.size (.slice v1a c.r.held.length v1c) 2 (c.r.held.map pceCells),slF (.slice Acrh c.r.held.length Ccrh) 2 (c.r.held.map pceCells)] (by kernel_rfl) (by kernel_rfl)).trans <| kF 2 0 [1,2,4,6],by show (fun (s : Snd) (L : List Seg) (t : Int) (A : Option Addr) (cap : Nat) => meas s) (sentOff s (nextChunk s window (mssO c.o)).1) (L ++ ([⟨c.t.my,c.t.port,(nextChunk s window (mssO c.o)).1.seq,c.r.next,25,windowOf c.r,⟨0,(-1),false,false,0,0⟩,(nextChunk s window (mssO c.o)).1.text⟩] : List Seg)) t v10a v10c < meas s; exact meas_next hyes⟩
 have hF := h8
 refine kK ?_
 refine kQ ?_
 refine kHD 2 [1,2,4,6,7,62,63] [(62,.v (.slice A L.length cap)),(63,.v (.agg #[.int .i64 c.t.my,.int .i64 c.t.port,.int .i64 ((nextChunk s window (mssO c.o)).1.seq),.int .i64 c.r.next,.int .i64 24,.int .i64 (windowOf c.r),.int .i64 0,.int .i64 (-1),.bool false,.bool false,.int .i64 0,.int .i64 0,.string ((nextChunk s window (mssO c.o)).1.text)]))] rfl (hv_build (e := 36) (K := 13) (bytes := 104) [.agg #[.int .i64 c.t.my,.int .i64 c.t.port,.int .i64 ((nextChunk s window (mssO c.o)).1.seq),.int .i64 c.r.next,.int .i64 24,.int .i64 (windowOf c.r),.int .i64 0,.int .i64 (-1),.bool false,.bool false,.int .i64 0,.int .i64 0,.string ((nextChunk s window (mssO c.o)).1.text)]] rfl (by kernel_rfl) (by kernel_rfl) (by kernel_rfl) (by kernel_rfl) (by kernel_rfl) (rs := ([⟨c.t.my,c.t.port,(nextChunk s window (mssO c.o)).1.seq,c.r.next,24,windowOf c.r,⟨0,(-1),false,false,0,0⟩,(nextChunk s window (mssO c.o)).1.text⟩] : List Seg).map segCells) rfl) ?_
 intro g12
 refine kHD 0 [1,2,4,6,7,62,64] [] rfl (hv_append (e := 36) (K := 13) (bytes := 104) (i := 1) (q := (L ++ ([⟨c.t.my,c.t.port,(nextChunk s window (mssO c.o)).1.seq,c.r.next,24,windowOf c.r,⟨0,(-1),false,false,0,0⟩,(nextChunk s window (mssO c.o)).1.text⟩] : List Seg)).length) (new := ([⟨c.t.my,c.t.port,(nextChunk s window (mssO c.o)).1.seq,c.r.next,24,windowOf c.r,⟨0,(-1),false,false,0,0⟩,(nextChunk s window (mssO c.o)).1.text⟩] : List Seg).map segCells) (rs' := (L ++ ([⟨c.t.my,c.t.port,(nextChunk s window (mssO c.o)).1.seq,c.r.next,24,windowOf c.r,⟨0,(-1),false,false,0,0⟩,(nextChunk s window (mssO c.o)).1.text⟩] : List Seg)).map segCells) rfl rfl rfl rfl (by kernel_rfl) (by kernel_rfl) (by kernel_rfl) rfl (by simp) (by rw [List.map_append]) (by simp) (fun ww hf => (rowF_sl (hf (rowF w.heap.size 36 13 (.slice (some ⟨g12,0,none⟩) 1 1) (([⟨c.t.my,c.t.port,(nextChunk s window (mssO c.o)).1.seq,c.r.next,24,windowOf c.r,⟨0,(-1),false,false,0,0⟩,(nextChunk s window (mssO c.o)).1.text⟩] : List Seg).map segCells)) (by simp)))) (by intro r hr; obtain ⟨x,hx,rfl⟩ := List.mem_map.1 hr; exact ⟨rfl,by simp [segCells,Value.oneCell']⟩) (by (try simp only [List.length_map,List.length_append,List.length_cons,List.length_nil,List.length_take,List.length_drop,maxLen]); omega) (by (try simp only [List.length_map,List.length_append,List.length_cons,List.length_nil,List.length_take,List.length_drop,maxLen]); omega)) ?_
 rintro ⟨v13a,v13c⟩
 refine kED [1,2,4,6,7] [(6,.v (.slice v13a ((L ++ ([⟨c.t.my,c.t.port,(nextChunk s window (mssO c.o)).1.seq,c.r.next,24,windowOf c.r,⟨0,(-1),false,false,0,0⟩,(nextChunk s window (mssO c.o)).1.text⟩] : List Seg)).length) v13c))] ?_
 refine kQ ?_
 refine kCD 3 [1,2,4,6,67,68] [(67,.v (.agg (sndL s).toArray)),(68,.v (.agg (chkL (nextChunk s window (mssO c.o)).1).toArray))] 93 [.agg (sndL s).toArray,.agg (chkL (nextChunk s window (mssO c.o)).1).toArray] (some 69) rfl (xc_b fun ww hf => ysSentOff_c s ((nextChunk s window (mssO c.o)).1) ww  ) ?_
 intro _
 refine kEF [1,2,4,6] ⟨[(1,.v (.int .i64 window)),(2,.p 0 0),(4,.p 1 0),(6,.v (.slice v13a ((L ++ ([⟨c.t.my,c.t.port,(nextChunk s window (mssO c.o)).1.seq,c.r.next,24,windowOf c.r,⟨0,(-1),false,false,0,0⟩,(nextChunk s window (mssO c.o)).1.text⟩] : List Seg)).length) v13c))],[⟨34,conL { c with s := (sentOff s ((nextChunk s window (mssO c.o)).1)),timer := t } (.slice v1a c.r.held.length v1c)⟩,⟨34,conZ⟩,⟨89,chkL (nextChunk s window (mssO c.o)).1⟩,⟨36,[.int .i64 c.t.my,.int .i64 c.t.port,.int .i64 ((nextChunk s window (mssO c.o)).1.seq),.int .i64 c.r.next,.int .i64 24,.int .i64 (windowOf c.r),.int .i64 0,.int .i64 (-1),.bool false,.bool false,.int .i64 0,.int .i64 0,.string ((nextChunk s window (mssO c.o)).1.text)]⟩],[],[rowF w.heap.size 36 13 (.slice v13a ((L ++ ([⟨c.t.my,c.t.port,(nextChunk s window (mssO c.o)).1.seq,c.r.next,24,windowOf c.r,⟨0,(-1),false,false,0,0⟩,(nextChunk s window (mssO c.o)).1.text⟩] : List Seg)).length) v13c) ((L ++ ([⟨c.t.my,c.t.port,(nextChunk s window (mssO c.o)).1.seq,c.r.next,24,windowOf c.r,⟨0,(-1),false,false,0,0⟩,(nextChunk s window (mssO c.o)).1.text⟩] : List Seg)).map segCells),rowF w.heap.size 36 13 (.slice (some ⟨g12,0,none⟩) 1 1) (([⟨c.t.my,c.t.port,(nextChunk s window (mssO c.o)).1.seq,c.r.next,24,windowOf c.r,⟨0,(-1),false,false,0,0⟩,(nextChunk s window (mssO c.o)).1.text⟩] : List Seg).map segCells),ownF w.heap.size (.slice v1a c.r.held.length v1c) 2 (c.r.held.map pceCells),slF (.slice Acrh c.r.held.length Ccrh) 2 (c.r.held.map pceCells)]⟩ ?_
 refine kQ ?_
 refine kED [1,2,4,6,73] [(73,.v (.bool (t == 0)))] ?_
 refine kC (t == 0) (fun h14 => ?_) (fun h14 => ?_)
 have h14p := eqT h14
 refine kG ?_
 refine kEU [1,2,4,6] [] 0 ⟨34,conL { c with s := (sentOff s ((nextChunk s window (mssO c.o)).1)),timer := 3 } (.slice v1a c.r.held.length v1c)⟩ ?_
 have hrow : segOf c (nextChunk s window (mssO c.o)).1 = ⟨c.t.my,c.t.port,(nextChunk s window (mssO c.o)).1.seq,c.r.next,24,windowOf c.r,⟨0,(-1),false,false,0,0⟩,(nextChunk s window (mssO c.o)).1.text⟩ := by simp [segOf,hT,hF]
 exact ⟨⟨(sentOff s (nextChunk s window (mssO c.o)).1,(L ++ ([⟨c.t.my,c.t.port,(nextChunk s window (mssO c.o)).1.seq,c.r.next,24,windowOf c.r,⟨0,(-1),false,false,0,0⟩,(nextChunk s window (mssO c.o)).1.text⟩] : List Seg)),3,v13a,v13c),⟨pumpS_step hyes HS,pumpL_step hyes hrow HL,row_len HR (meas_next hyes),tmr_next HT (by (try dsimp only); split <;> omega)⟩⟩,(wk_pick [0,2,3] [rowF w.heap.size 36 13 (.slice v13a ((L ++ ([⟨c.t.my,c.t.port,(nextChunk s window (mssO c.o)).1.seq,c.r.next,24,windowOf c.r,⟨0,(-1),false,false,0,0⟩,(nextChunk s window (mssO c.o)).1.text⟩] : List Seg)).length) v13c) ((L ++ ([⟨c.t.my,c.t.port,(nextChunk s window (mssO c.o)).1.seq,c.r.next,24,windowOf c.r,⟨0,(-1),false,false,0,0⟩,(nextChunk s window (mssO c.o)).1.text⟩] : List Seg)).map segCells),ownF w.heap.size (.slice v1a c.r.held.length v1c) 2 (c.r.held.map pceCells),slF (.slice Acrh c.r.held.length Ccrh) 2 (c.r.held.map pceCells)] (by kernel_rfl) (by kernel_rfl)).trans <| kF 2 0 [1,2,4,6],by show (fun (s : Snd) (L : List Seg) (t : Int) (A : Option Addr) (cap : Nat) => meas s) (sentOff s (nextChunk s window (mssO c.o)).1) (L ++ ([⟨c.t.my,c.t.port,(nextChunk s window (mssO c.o)).1.seq,c.r.next,24,windowOf c.r,⟨0,(-1),false,false,0,0⟩,(nextChunk s window (mssO c.o)).1.text⟩] : List Seg)) 3 v13a v13c < meas s; exact meas_next hyes⟩
 have h14p := eqF h14
 refine kK ?_
 have hrow : segOf c (nextChunk s window (mssO c.o)).1 = ⟨c.t.my,c.t.port,(nextChunk s window (mssO c.o)).1.seq,c.r.next,24,windowOf c.r,⟨0,(-1),false,false,0,0⟩,(nextChunk s window (mssO c.o)).1.text⟩ := by simp [segOf,hT,hF]
 exact ⟨⟨(sentOff s (nextChunk s window (mssO c.o)).1,(L ++ ([⟨c.t.my,c.t.port,(nextChunk s window (mssO c.o)).1.seq,c.r.next,24,windowOf c.r,⟨0,(-1),false,false,0,0⟩,(nextChunk s window (mssO c.o)).1.text⟩] : List Seg)),t,v13a,v13c),⟨pumpS_step hyes HS,pumpL_step hyes hrow HL,row_len HR (meas_next hyes),tmr_next HT (by (try dsimp only); split <;> omega)⟩⟩,(wk_pick [0,2,3] [rowF w.heap.size 36 13 (.slice v13a ((L ++ ([⟨c.t.my,c.t.port,(nextChunk s window (mssO c.o)).1.seq,c.r.next,24,windowOf c.r,⟨0,(-1),false,false,0,0⟩,(nextChunk s window (mssO c.o)).1.text⟩] : List Seg)).length) v13c) ((L ++ ([⟨c.t.my,c.t.port,(nextChunk s window (mssO c.o)).1.seq,c.r.next,24,windowOf c.r,⟨0,(-1),false,false,0,0⟩,(nextChunk s window (mssO c.o)).1.text⟩] : List Seg)).map segCells),ownF w.heap.size (.slice v1a c.r.held.length v1c) 2 (c.r.held.map pceCells),slF (.slice Acrh c.r.held.length Ccrh) 2 (c.r.held.map pceCells)] (by kernel_rfl) (by kernel_rfl)).trans <| kF 2 0 [1,2,4,6],by show (fun (s : Snd) (L : List Seg) (t : Int) (A : Option Addr) (cap : Nat) => meas s) (sentOff s (nextChunk s window (mssO c.o)).1) (L ++ ([⟨c.t.my,c.t.port,(nextChunk s window (mssO c.o)).1.seq,c.r.next,24,windowOf c.r,⟨0,(-1),false,false,0,0⟩,(nextChunk s window (mssO c.o)).1.text⟩] : List Seg)) t v13a v13c < meas s; exact meas_next hyes⟩
 have hT : (nextChunk s window (mssO c.o)).1.text.toList.isEmpty = true := by simpa [toList_lit0] using h7
 refine kK ?_
 refine kS ?_
 refine kQ ?_
 refine kED [1,2,4,6,7,9,57] [(57,.v (.bool ((nextChunk s window (mssO c.o)).1.fin)))] ?_
 refine kC ((nextChunk s window (mssO c.o)).1.fin) (fun h15 => ?_) (fun h15 => ?_)
 have hF := h15
 refine kG ?_
 refine kEU [1,2,4,6,7,9] [] 3 ⟨36,[.int .i64 c.t.my,.int .i64 c.t.port,.int .i64 ((nextChunk s window (mssO c.o)).1.seq),.int .i64 c.r.next,.int .i64 17,.int .i64 (windowOf c.r),.int .i64 0,.int .i64 (-1),.bool false,.bool false,.int .i64 0,.int .i64 0,.string ((nextChunk s window (mssO c.o)).1.text)]⟩ ?_
 refine kQ ?_
 refine kHD 2 [1,2,4,6,7,62,63] [(62,.v (.slice A L.length cap)),(63,.v (.agg #[.int .i64 c.t.my,.int .i64 c.t.port,.int .i64 ((nextChunk s window (mssO c.o)).1.seq),.int .i64 c.r.next,.int .i64 17,.int .i64 (windowOf c.r),.int .i64 0,.int .i64 (-1),.bool false,.bool false,.int .i64 0,.int .i64 0,.string ((nextChunk s window (mssO c.o)).1.text)]))] rfl (hv_build (e := 36) (K := 13) (bytes := 104) [.agg #[.int .i64 c.t.my,.int .i64 c.t.port,.int .i64 ((nextChunk s window (mssO c.o)).1.seq),.int .i64 c.r.next,.int .i64 17,.int .i64 (windowOf c.r),.int .i64 0,.int .i64 (-1),.bool false,.bool false,.int .i64 0,.int .i64 0,.string ((nextChunk s window (mssO c.o)).1.text)]] rfl (by kernel_rfl) (by kernel_rfl) (by kernel_rfl) (by kernel_rfl) (by kernel_rfl) (rs := ([⟨c.t.my,c.t.port,(nextChunk s window (mssO c.o)).1.seq,c.r.next,17,windowOf c.r,⟨0,(-1),false,false,0,0⟩,(nextChunk s window (mssO c.o)).1.text⟩] : List Seg).map segCells) rfl) ?_
 intro g16
 refine kHD 0 [1,2,4,6,7,62,64] [] rfl (hv_append (e := 36) (K := 13) (bytes := 104) (i := 1) (q := (L ++ ([⟨c.t.my,c.t.port,(nextChunk s window (mssO c.o)).1.seq,c.r.next,17,windowOf c.r,⟨0,(-1),false,false,0,0⟩,(nextChunk s window (mssO c.o)).1.text⟩] : List Seg)).length) (new := ([⟨c.t.my,c.t.port,(nextChunk s window (mssO c.o)).1.seq,c.r.next,17,windowOf c.r,⟨0,(-1),false,false,0,0⟩,(nextChunk s window (mssO c.o)).1.text⟩] : List Seg).map segCells) (rs' := (L ++ ([⟨c.t.my,c.t.port,(nextChunk s window (mssO c.o)).1.seq,c.r.next,17,windowOf c.r,⟨0,(-1),false,false,0,0⟩,(nextChunk s window (mssO c.o)).1.text⟩] : List Seg)).map segCells) rfl rfl rfl rfl (by kernel_rfl) (by kernel_rfl) (by kernel_rfl) rfl (by simp) (by rw [List.map_append]) (by simp) (fun ww hf => (rowF_sl (hf (rowF w.heap.size 36 13 (.slice (some ⟨g16,0,none⟩) 1 1) (([⟨c.t.my,c.t.port,(nextChunk s window (mssO c.o)).1.seq,c.r.next,17,windowOf c.r,⟨0,(-1),false,false,0,0⟩,(nextChunk s window (mssO c.o)).1.text⟩] : List Seg).map segCells)) (by simp)))) (by intro r hr; obtain ⟨x,hx,rfl⟩ := List.mem_map.1 hr; exact ⟨rfl,by simp [segCells,Value.oneCell']⟩) (by (try simp only [List.length_map,List.length_append,List.length_cons,List.length_nil,List.length_take,List.length_drop,maxLen]); omega) (by (try simp only [List.length_map,List.length_append,List.length_cons,List.length_nil,List.length_take,List.length_drop,maxLen]); omega)) ?_
 rintro ⟨v17a,v17c⟩
 refine kED [1,2,4,6,7] [(6,.v (.slice v17a ((L ++ ([⟨c.t.my,c.t.port,(nextChunk s window (mssO c.o)).1.seq,c.r.next,17,windowOf c.r,⟨0,(-1),false,false,0,0⟩,(nextChunk s window (mssO c.o)).1.text⟩] : List Seg)).length) v17c))] ?_
 refine kQ ?_
 refine kCD 3 [1,2,4,6,67,68] [(67,.v (.agg (sndL s).toArray)),(68,.v (.agg (chkL (nextChunk s window (mssO c.o)).1).toArray))] 93 [.agg (sndL s).toArray,.agg (chkL (nextChunk s window (mssO c.o)).1).toArray] (some 69) rfl (xc_b fun ww hf => ysSentOff_c s ((nextChunk s window (mssO c.o)).1) ww  ) ?_
 intro _
 refine kEF [1,2,4,6] ⟨[(1,.v (.int .i64 window)),(2,.p 0 0),(4,.p 1 0),(6,.v (.slice v17a ((L ++ ([⟨c.t.my,c.t.port,(nextChunk s window (mssO c.o)).1.seq,c.r.next,17,windowOf c.r,⟨0,(-1),false,false,0,0⟩,(nextChunk s window (mssO c.o)).1.text⟩] : List Seg)).length) v17c))],[⟨34,conL { c with s := (sentOff s ((nextChunk s window (mssO c.o)).1)),timer := t } (.slice v1a c.r.held.length v1c)⟩,⟨34,conZ⟩,⟨89,chkL (nextChunk s window (mssO c.o)).1⟩,⟨36,[.int .i64 c.t.my,.int .i64 c.t.port,.int .i64 ((nextChunk s window (mssO c.o)).1.seq),.int .i64 c.r.next,.int .i64 17,.int .i64 (windowOf c.r),.int .i64 0,.int .i64 (-1),.bool false,.bool false,.int .i64 0,.int .i64 0,.string ((nextChunk s window (mssO c.o)).1.text)]⟩],[],[rowF w.heap.size 36 13 (.slice v17a ((L ++ ([⟨c.t.my,c.t.port,(nextChunk s window (mssO c.o)).1.seq,c.r.next,17,windowOf c.r,⟨0,(-1),false,false,0,0⟩,(nextChunk s window (mssO c.o)).1.text⟩] : List Seg)).length) v17c) ((L ++ ([⟨c.t.my,c.t.port,(nextChunk s window (mssO c.o)).1.seq,c.r.next,17,windowOf c.r,⟨0,(-1),false,false,0,0⟩,(nextChunk s window (mssO c.o)).1.text⟩] : List Seg)).map segCells),rowF w.heap.size 36 13 (.slice (some ⟨g16,0,none⟩) 1 1) (([⟨c.t.my,c.t.port,(nextChunk s window (mssO c.o)).1.seq,c.r.next,17,windowOf c.r,⟨0,(-1),false,false,0,0⟩,(nextChunk s window (mssO c.o)).1.text⟩] : List Seg).map segCells),ownF w.heap.size (.slice v1a c.r.held.length v1c) 2 (c.r.held.map pceCells),slF (.slice Acrh c.r.held.length Ccrh) 2 (c.r.held.map pceCells)]⟩ ?_
 refine kQ ?_
 refine kED [1,2,4,6,73] [(73,.v (.bool (t == 0)))] ?_
 refine kC (t == 0) (fun h18 => ?_) (fun h18 => ?_)
 have h18p := eqT h18
 refine kG ?_
 refine kEU [1,2,4,6] [] 0 ⟨34,conL { c with s := (sentOff s ((nextChunk s window (mssO c.o)).1)),timer := 3 } (.slice v1a c.r.held.length v1c)⟩ ?_
 have hrow : segOf c (nextChunk s window (mssO c.o)).1 = ⟨c.t.my,c.t.port,(nextChunk s window (mssO c.o)).1.seq,c.r.next,17,windowOf c.r,⟨0,(-1),false,false,0,0⟩,(nextChunk s window (mssO c.o)).1.text⟩ := by simp [segOf,hT,hF]
 exact ⟨⟨(sentOff s (nextChunk s window (mssO c.o)).1,(L ++ ([⟨c.t.my,c.t.port,(nextChunk s window (mssO c.o)).1.seq,c.r.next,17,windowOf c.r,⟨0,(-1),false,false,0,0⟩,(nextChunk s window (mssO c.o)).1.text⟩] : List Seg)),3,v17a,v17c),⟨pumpS_step hyes HS,pumpL_step hyes hrow HL,row_len HR (meas_next hyes),tmr_next HT (by (try dsimp only); split <;> omega)⟩⟩,(wk_pick [0,2,3] [rowF w.heap.size 36 13 (.slice v17a ((L ++ ([⟨c.t.my,c.t.port,(nextChunk s window (mssO c.o)).1.seq,c.r.next,17,windowOf c.r,⟨0,(-1),false,false,0,0⟩,(nextChunk s window (mssO c.o)).1.text⟩] : List Seg)).length) v17c) ((L ++ ([⟨c.t.my,c.t.port,(nextChunk s window (mssO c.o)).1.seq,c.r.next,17,windowOf c.r,⟨0,(-1),false,false,0,0⟩,(nextChunk s window (mssO c.o)).1.text⟩] : List Seg)).map segCells),ownF w.heap.size (.slice v1a c.r.held.length v1c) 2 (c.r.held.map pceCells),slF (.slice Acrh c.r.held.length Ccrh) 2 (c.r.held.map pceCells)] (by kernel_rfl) (by kernel_rfl)).trans <| kF 2 0 [1,2,4,6],by show (fun (s : Snd) (L : List Seg) (t : Int) (A : Option Addr) (cap : Nat) => meas s) (sentOff s (nextChunk s window (mssO c.o)).1) (L ++ ([⟨c.t.my,c.t.port,(nextChunk s window (mssO c.o)).1.seq,c.r.next,17,windowOf c.r,⟨0,(-1),false,false,0,0⟩,(nextChunk s window (mssO c.o)).1.text⟩] : List Seg)) 3 v17a v17c < meas s; exact meas_next hyes⟩
 have h18p := eqF h18
 refine kK ?_
 have hrow : segOf c (nextChunk s window (mssO c.o)).1 = ⟨c.t.my,c.t.port,(nextChunk s window (mssO c.o)).1.seq,c.r.next,17,windowOf c.r,⟨0,(-1),false,false,0,0⟩,(nextChunk s window (mssO c.o)).1.text⟩ := by simp [segOf,hT,hF]
 exact ⟨⟨(sentOff s (nextChunk s window (mssO c.o)).1,(L ++ ([⟨c.t.my,c.t.port,(nextChunk s window (mssO c.o)).1.seq,c.r.next,17,windowOf c.r,⟨0,(-1),false,false,0,0⟩,(nextChunk s window (mssO c.o)).1.text⟩] : List Seg)),t,v17a,v17c),⟨pumpS_step hyes HS,pumpL_step hyes hrow HL,row_len HR (meas_next hyes),tmr_next HT (by (try dsimp only); split <;> omega)⟩⟩,(wk_pick [0,2,3] [rowF w.heap.size 36 13 (.slice v17a ((L ++ ([⟨c.t.my,c.t.port,(nextChunk s window (mssO c.o)).1.seq,c.r.next,17,windowOf c.r,⟨0,(-1),false,false,0,0⟩,(nextChunk s window (mssO c.o)).1.text⟩] : List Seg)).length) v17c) ((L ++ ([⟨c.t.my,c.t.port,(nextChunk s window (mssO c.o)).1.seq,c.r.next,17,windowOf c.r,⟨0,(-1),false,false,0,0⟩,(nextChunk s window (mssO c.o)).1.text⟩] : List Seg)).map segCells),ownF w.heap.size (.slice v1a c.r.held.length v1c) 2 (c.r.held.map pceCells),slF (.slice Acrh c.r.held.length Ccrh) 2 (c.r.held.map pceCells)] (by kernel_rfl) (by kernel_rfl)).trans <| kF 2 0 [1,2,4,6],by show (fun (s : Snd) (L : List Seg) (t : Int) (A : Option Addr) (cap : Nat) => meas s) (sentOff s (nextChunk s window (mssO c.o)).1) (L ++ ([⟨c.t.my,c.t.port,(nextChunk s window (mssO c.o)).1.seq,c.r.next,17,windowOf c.r,⟨0,(-1),false,false,0,0⟩,(nextChunk s window (mssO c.o)).1.text⟩] : List Seg)) t v17a v17c < meas s; exact meas_next hyes⟩
 have hF := h15
 refine kK ?_
 refine kQ ?_
 refine kHD 2 [1,2,4,6,7,62,63] [(62,.v (.slice A L.length cap)),(63,.v (.agg #[.int .i64 c.t.my,.int .i64 c.t.port,.int .i64 ((nextChunk s window (mssO c.o)).1.seq),.int .i64 c.r.next,.int .i64 16,.int .i64 (windowOf c.r),.int .i64 0,.int .i64 (-1),.bool false,.bool false,.int .i64 0,.int .i64 0,.string ((nextChunk s window (mssO c.o)).1.text)]))] rfl (hv_build (e := 36) (K := 13) (bytes := 104) [.agg #[.int .i64 c.t.my,.int .i64 c.t.port,.int .i64 ((nextChunk s window (mssO c.o)).1.seq),.int .i64 c.r.next,.int .i64 16,.int .i64 (windowOf c.r),.int .i64 0,.int .i64 (-1),.bool false,.bool false,.int .i64 0,.int .i64 0,.string ((nextChunk s window (mssO c.o)).1.text)]] rfl (by kernel_rfl) (by kernel_rfl) (by kernel_rfl) (by kernel_rfl) (by kernel_rfl) (rs := ([⟨c.t.my,c.t.port,(nextChunk s window (mssO c.o)).1.seq,c.r.next,16,windowOf c.r,⟨0,(-1),false,false,0,0⟩,(nextChunk s window (mssO c.o)).1.text⟩] : List Seg).map segCells) rfl) ?_
 intro g19
 refine kHD 0 [1,2,4,6,7,62,64] [] rfl (hv_append (e := 36) (K := 13) (bytes := 104) (i := 1) (q := (L ++ ([⟨c.t.my,c.t.port,(nextChunk s window (mssO c.o)).1.seq,c.r.next,16,windowOf c.r,⟨0,(-1),false,false,0,0⟩,(nextChunk s window (mssO c.o)).1.text⟩] : List Seg)).length) (new := ([⟨c.t.my,c.t.port,(nextChunk s window (mssO c.o)).1.seq,c.r.next,16,windowOf c.r,⟨0,(-1),false,false,0,0⟩,(nextChunk s window (mssO c.o)).1.text⟩] : List Seg).map segCells) (rs' := (L ++ ([⟨c.t.my,c.t.port,(nextChunk s window (mssO c.o)).1.seq,c.r.next,16,windowOf c.r,⟨0,(-1),false,false,0,0⟩,(nextChunk s window (mssO c.o)).1.text⟩] : List Seg)).map segCells) rfl rfl rfl rfl (by kernel_rfl) (by kernel_rfl) (by kernel_rfl) rfl (by simp) (by rw [List.map_append]) (by simp) (fun ww hf => (rowF_sl (hf (rowF w.heap.size 36 13 (.slice (some ⟨g19,0,none⟩) 1 1) (([⟨c.t.my,c.t.port,(nextChunk s window (mssO c.o)).1.seq,c.r.next,16,windowOf c.r,⟨0,(-1),false,false,0,0⟩,(nextChunk s window (mssO c.o)).1.text⟩] : List Seg).map segCells)) (by simp)))) (by intro r hr; obtain ⟨x,hx,rfl⟩ := List.mem_map.1 hr; exact ⟨rfl,by simp [segCells,Value.oneCell']⟩) (by (try simp only [List.length_map,List.length_append,List.length_cons,List.length_nil,List.length_take,List.length_drop,maxLen]); omega) (by (try simp only [List.length_map,List.length_append,List.length_cons,List.length_nil,List.length_take,List.length_drop,maxLen]); omega)) ?_
 rintro ⟨v20a,v20c⟩
 refine kED [1,2,4,6,7] [(6,.v (.slice v20a ((L ++ ([⟨c.t.my,c.t.port,(nextChunk s window (mssO c.o)).1.seq,c.r.next,16,windowOf c.r,⟨0,(-1),false,false,0,0⟩,(nextChunk s window (mssO c.o)).1.text⟩] : List Seg)).length) v20c))] ?_
 refine kQ ?_
 refine kCD 3 [1,2,4,6,67,68] [(67,.v (.agg (sndL s).toArray)),(68,.v (.agg (chkL (nextChunk s window (mssO c.o)).1).toArray))] 93 [.agg (sndL s).toArray,.agg (chkL (nextChunk s window (mssO c.o)).1).toArray] (some 69) rfl (xc_b fun ww hf => ysSentOff_c s ((nextChunk s window (mssO c.o)).1) ww  ) ?_
 intro _
 refine kEU [1,2,4,6] [] 0 ⟨34,conL { c with s := (sentOff s ((nextChunk s window (mssO c.o)).1)),timer := t } (.slice v1a c.r.held.length v1c)⟩ ?_
 refine kQ ?_
 refine kES [1,2,4,6,73] [(1,.v (.int .i64 window)),(2,.p 0 0),(4,.p 1 0),(6,.v (.slice v20a ((L ++ ([⟨c.t.my,c.t.port,(nextChunk s window (mssO c.o)).1.seq,c.r.next,16,windowOf c.r,⟨0,(-1),false,false,0,0⟩,(nextChunk s window (mssO c.o)).1.text⟩] : List Seg)).length) v20c)),(73,.v (.bool (t == 0)))] ?_
 refine kC (t == 0) (fun h21 => ?_) (fun h21 => ?_)
 have h21p := eqT h21
 refine kG ?_
 refine kEU [1,2,4,6] [] 0 ⟨34,conL { c with s := (sentOff s ((nextChunk s window (mssO c.o)).1)),timer := 3 } (.slice v1a c.r.held.length v1c)⟩ ?_
 have hrow : segOf c (nextChunk s window (mssO c.o)).1 = ⟨c.t.my,c.t.port,(nextChunk s window (mssO c.o)).1.seq,c.r.next,16,windowOf c.r,⟨0,(-1),false,false,0,0⟩,(nextChunk s window (mssO c.o)).1.text⟩ := by simp [segOf,hT,hF]
 exact ⟨⟨(sentOff s (nextChunk s window (mssO c.o)).1,(L ++ ([⟨c.t.my,c.t.port,(nextChunk s window (mssO c.o)).1.seq,c.r.next,16,windowOf c.r,⟨0,(-1),false,false,0,0⟩,(nextChunk s window (mssO c.o)).1.text⟩] : List Seg)),3,v20a,v20c),⟨pumpS_step hyes HS,pumpL_step hyes hrow HL,row_len HR (meas_next hyes),tmr_next HT (by (try dsimp only); split <;> omega)⟩⟩,(wk_pick [0,2,3] [rowF w.heap.size 36 13 (.slice v20a ((L ++ ([⟨c.t.my,c.t.port,(nextChunk s window (mssO c.o)).1.seq,c.r.next,16,windowOf c.r,⟨0,(-1),false,false,0,0⟩,(nextChunk s window (mssO c.o)).1.text⟩] : List Seg)).length) v20c) ((L ++ ([⟨c.t.my,c.t.port,(nextChunk s window (mssO c.o)).1.seq,c.r.next,16,windowOf c.r,⟨0,(-1),false,false,0,0⟩,(nextChunk s window (mssO c.o)).1.text⟩] : List Seg)).map segCells),ownF w.heap.size (.slice v1a c.r.held.length v1c) 2 (c.r.held.map pceCells),slF (.slice Acrh c.r.held.length Ccrh) 2 (c.r.held.map pceCells)] (by kernel_rfl) (by kernel_rfl)).trans <| kF 2 0 [1,2,4,6],by show (fun (s : Snd) (L : List Seg) (t : Int) (A : Option Addr) (cap : Nat) => meas s) (sentOff s (nextChunk s window (mssO c.o)).1) (L ++ ([⟨c.t.my,c.t.port,(nextChunk s window (mssO c.o)).1.seq,c.r.next,16,windowOf c.r,⟨0,(-1),false,false,0,0⟩,(nextChunk s window (mssO c.o)).1.text⟩] : List Seg)) 3 v20a v20c < meas s; exact meas_next hyes⟩
 have h21p := eqF h21
 refine kK ?_
 have hrow : segOf c (nextChunk s window (mssO c.o)).1 = ⟨c.t.my,c.t.port,(nextChunk s window (mssO c.o)).1.seq,c.r.next,16,windowOf c.r,⟨0,(-1),false,false,0,0⟩,(nextChunk s window (mssO c.o)).1.text⟩ := by simp [segOf,hT,hF]
 exact ⟨⟨(sentOff s (nextChunk s window (mssO c.o)).1,(L ++ ([⟨c.t.my,c.t.port,(nextChunk s window (mssO c.o)).1.seq,c.r.next,16,windowOf c.r,⟨0,(-1),false,false,0,0⟩,(nextChunk s window (mssO c.o)).1.text⟩] : List Seg)),t,v20a,v20c),⟨pumpS_step hyes HS,pumpL_step hyes hrow HL,row_len HR (meas_next hyes),tmr_next HT (by (try dsimp only); split <;> omega)⟩⟩,(wk_pick [0,2,3] [rowF w.heap.size 36 13 (.slice v20a ((L ++ ([⟨c.t.my,c.t.port,(nextChunk s window (mssO c.o)).1.seq,c.r.next,16,windowOf c.r,⟨0,(-1),false,false,0,0⟩,(nextChunk s window (mssO c.o)).1.text⟩] : List Seg)).length) v20c) ((L ++ ([⟨c.t.my,c.t.port,(nextChunk s window (mssO c.o)).1.seq,c.r.next,16,windowOf c.r,⟨0,(-1),false,false,0,0⟩,(nextChunk s window (mssO c.o)).1.text⟩] : List Seg)).map segCells),ownF w.heap.size (.slice v1a c.r.held.length v1c) 2 (c.r.held.map pceCells),slF (.slice Acrh c.r.held.length Ccrh) 2 (c.r.held.map pceCells)] (by kernel_rfl) (by kernel_rfl)).trans <| kF 2 0 [1,2,4,6],by show (fun (s : Snd) (L : List Seg) (t : Int) (A : Option Addr) (cap : Nat) => meas s) (sentOff s (nextChunk s window (mssO c.o)).1) (L ++ ([⟨c.t.my,c.t.port,(nextChunk s window (mssO c.o)).1.seq,c.r.next,16,windowOf c.r,⟨0,(-1),false,false,0,0⟩,(nextChunk s window (mssO c.o)).1.text⟩] : List Seg)) t v20a v20c < meas s; exact meas_next hyes⟩
theorem yiPump_c (c : Con) (c_r_heldV : Value) (window : Int) (w : World) (hl_c_r_heldV : Sl w c_r_heldV 2 (c.r.held.map pceCells)) (hkn : c.r.held.length ≤ 1048576)(hm : ∀ p ∈ c.r.held, p.text.size ≤ 1048576) (hsz : c.r.data.size ≤ 4611686018427387904) (hwi : -9223372036854775808 ≤ window ∧ window ≤ 9223372036854775807) (B : Nat) (hB : B ≤ w.heap.size) : Calls Tryz.prog 36 #[.agg (conL c c_r_heldV).toArray, .int .i64 window] w fun e w' => XRs w w' e (α := (Option Addr × Nat) × (Option Addr × Nat)) (fun y => .tuple #[.agg (conL (pump c window).1 (.slice y.1.1 ((pump c window).1.r.held.length) y.1.2)).toArray, .slice y.2.1 ((pump c window).2.length) y.2.2]) (fun y => [ownF B (.slice y.1.1 ((pump c window).1.r.held.length) y.1.2) 2 ((pump c window).1.r.held.map pceCells), ownF B (.slice y.2.1 ((pump c window).2.length) y.2.2) 13 ((pump c window).2.map segCells)]) := by
 obtain ⟨Acrh,Ccrh,hvcrh⟩ := hl_c_r_heldV.form
 rw [List.length_map] at hvcrh; subst hvcrh
 have hncrh := hl_c_r_heldV.len; rw [List.length_map] at hncrh
 have hqcrh := Sl.capLe hl_c_r_heldV
 refine x_callsA (args := [.agg (conL c (.slice Acrh c.r.held.length Ccrh)).toArray,.int .i64 window]) (fn := Tryz.f36) [slF (.slice Acrh c.r.held.length Ccrh) 2 (c.r.held.map pceCells)] Tryz.func36 rfl Tryz.ntmps36 rfl (by simp only [List.mem_cons,List.not_mem_nil,or_false,forall_eq_or_imp,forall_eq]; exact ⟨rfl,hl_c_r_heldV⟩) ?_
 refine kQ ?_
 refine kEF [1,2,4] ⟨[(1,.v (.int .i64 window)),(2,.p 0 0),(4,.p 1 0)],[⟨34,conL c (.slice Acrh c.r.held.length Ccrh)⟩,⟨34,conZ⟩],[],[slF (.slice Acrh c.r.held.length Ccrh) 2 (c.r.held.map pceCells)]⟩ ?_
 refine kQ ?_
 refine kCD 1 [1,2,4,11] [(11,.v (.agg (conL c (.slice Acrh c.r.held.length Ccrh)).toArray))] 67 [.agg (conL c (.slice Acrh c.r.held.length Ccrh)).toArray] (some 12) rfl (xc_r fun ww hw hf => ycloneConn_c c (.slice Acrh c.r.held.length Ccrh) ww (hf _ m0) (by assumption) w.heap.size hw) ?_
 rintro ⟨v1a,v1c⟩
 refine kEA [1,2,4,6] [(6,.p 2 0)] [⟨34,conL c (.slice v1a c.r.held.length v1c)⟩] ?_
 refine kS ?_
 refine kQ ?_
 refine kCD 1 [1,2,4,6,13] [(13,.v (.agg (conL c (.slice Acrh c.r.held.length Ccrh)).toArray))] 24 [.agg (conL c (.slice Acrh c.r.held.length Ccrh)).toArray] (some 14) rfl (xc_b fun ww hf => yiConnOk_c c (.slice Acrh c.r.held.length Ccrh) ww (hf _ m1) (by assumption) (by omega)) ?_
 intro _
 refine kRD 2 [1,2,4,6,16] [(16,.v (.bool (!(conOk c))))] ?_
 refine kP 16 (!(conOk c)) (fun h2 => ?_) (fun h2 => ?_)
 have h2n := not_t h2
 refine kED [1,4,6,25] [(25,.v (.bool true))] ?_
 refine kT ?_
 refine kQ ?_
 refine kEU [4,5] [(5,.v (.slice none 0 0))] 1 ⟨34,conL c (.slice v1a c.r.held.length v1c)⟩ ?_
 refine kR ?_
 have hmod : pump c window = (c,[]) := by first | (simp [pump, *]; done) | exact pump_yes hok hs8 hs7 hS hL (by first | exact HT.symm | (unfold tmr; rw [show L.isEmpty = decide (L.length = 0) from by cases L <;> rfl]; simp only [decide_eq_true_eq]; split <;> (try split) <;> omega))
 exact ⟨[.agg (conL c (.slice v1a c.r.held.length v1c)).toArray,.slice none 0 0],by kernel_rfl,fun w' hb hf ha => by rw [hmod]; exact xo2 ((v1a,v1c),(none,0)) rfl rfl (pO (hf _ m0) hB) ⟨.inl ⟨rfl,_,rfl⟩,fun b hb => (hb.1 rfl).elim⟩ (apart_nil2 rfl) hb⟩
 have h2n := not_f h2
 refine kRD 5 [1,2,4,6,21] [(21,.v (.bool (c.state == 8)))] ?_
 refine kP 21 (c.state == 8) (fun h3 => ?_) (fun h3 => ?_)
 have h3p := eqT h3
 refine kED [1,4,6,25] [(25,.v (.bool true))] ?_
 refine kT ?_
 refine kQ ?_
 refine kEU [4,5] [(5,.v (.slice none 0 0))] 1 ⟨34,conL c (.slice v1a c.r.held.length v1c)⟩ ?_
 refine kR ?_
 have hmod : pump c window = (c,[]) := by first | (simp [pump, *]; done) | exact pump_yes hok hs8 hs7 hS hL (by first | exact HT.symm | (unfold tmr; rw [show L.isEmpty = decide (L.length = 0) from by cases L <;> rfl]; simp only [decide_eq_true_eq]; split <;> (try split) <;> omega))
 exact ⟨[.agg (conL c (.slice v1a c.r.held.length v1c)).toArray,.slice none 0 0],by kernel_rfl,fun w' hb hf ha => by rw [hmod]; exact xo2 ((v1a,v1c),(none,0)) rfl rfl (pO (hf _ m0) hB) ⟨.inl ⟨rfl,_,rfl⟩,fun b hb => (hb.1 rfl).elim⟩ (apart_nil2 rfl) hb⟩
 have h3p := eqF h3
 refine kED [1,4,6,25] [(25,.v (.bool (c.state == 7)))] ?_
 refine kC (c.state == 7) (fun h4 => ?_) (fun h4 => ?_)
 have h4p := eqT h4
 refine kQ ?_
 refine kEU [4,5] [(5,.v (.slice none 0 0))] 1 ⟨34,conL c (.slice v1a c.r.held.length v1c)⟩ ?_
 refine kR ?_
 have hmod : pump c window = (c,[]) := by first | (simp [pump, *]; done) | exact pump_yes hok hs8 hs7 hS hL (by first | exact HT.symm | (unfold tmr; rw [show L.isEmpty = decide (L.length = 0) from by cases L <;> rfl]; simp only [decide_eq_true_eq]; split <;> (try split) <;> omega))
 exact ⟨[.agg (conL c (.slice v1a c.r.held.length v1c)).toArray,.slice none 0 0],by kernel_rfl,fun w' hb hf ha => by rw [hmod]; exact xo2 ((v1a,v1c),(none,0)) rfl rfl (pO (hf _ m0) hB) ⟨.inl ⟨rfl,_,rfl⟩,fun b hb => (hb.1 rfl).elim⟩ (apart_nil2 rfl) hb⟩
 have h4p := eqF h4
 refine kK ?_
 refine kQ ?_
 refine kHD 0 [1,4,6] [] rfl (hv_build (e := 36) (K := 13) (bytes := 104) [] rfl (by kernel_rfl) (by kernel_rfl) (by kernel_rfl) (by kernel_rfl) (by kernel_rfl) (rs := ([] : List Seg).map segCells) rfl) ?_
 intro g5
 refine kED [1,4,6,7] [(7,.v (.slice (some ⟨g5,0,none⟩) 0 0))] ?_
 refine kS ?_
 refine xw_block ?_
 have hok : conOk c = true := by simp_all
 have hs8 : ¬ c.state = 8 := by simp_all
 have hs7 : ¬ c.state = 7 := by simp_all
 refine xw_loopW (α := {x : Snd × List Seg × Option Addr × Nat // (fun (s : Snd) (L : List Seg) (A : Option Addr) (cap : Nat) => (pumpC c.s window (mssO c.o)).1 = (pumpC s window (mssO c.o)).1 ∧ (pumpC c.s window (mssO c.o)).2.map (segOf c) = L ++ (pumpC s window (mssO c.o)).2.map (segOf c) ∧ L.length + meas s ≤ 49) x.1 x.2.1 x.2.2.1 x.2.2.2}) (fun x => (fun (s : Snd) (L : List Seg) (A : Option Addr) (cap : Nat) => (⟨[(1,.v (.int .i64 window)),(4,.p 1 0),(6,.p 2 0),(7,.v (.slice A L.length cap))],[⟨34,conL c (.slice Acrh c.r.held.length Ccrh)⟩,⟨34,conZ⟩,⟨34,conL { c with s := s } (.slice v1a c.r.held.length v1c)⟩],[],[rowF w.heap.size 36 13 (.slice A L.length cap) (L.map segCells),ownF w.heap.size (.slice v1a c.r.held.length v1c) 2 (c.r.held.map pceCells),slF (.slice Acrh c.r.held.length Ccrh) 2 (c.r.held.map pceCells)]⟩ : St)) x.1.1 x.1.2.1 x.1.2.2.1 x.1.2.2.2) (fun x => (fun (s : Snd) (L : List Seg) (A : Option Addr) (cap : Nat) => meas s) x.1.1 x.1.2.1 x.1.2.2.1 x.1.2.2.2) ⟨(c.s,([] : List Seg),(some ⟨g5,0,none⟩),0),⟨rfl,rfl,(by have := meas_le (conOk_s hok); simp only [List.length_nil]; omega)⟩⟩ ((wk_pick [0,1,2] [rowF w.heap.size 36 13 (.slice (some ⟨g5,0,none⟩) 0 0) (([] : List Seg).map segCells),ownF w.heap.size (.slice v1a c.r.held.length v1c) 2 (c.r.held.map pceCells),slF (.slice Acrh c.r.held.length Ccrh) 2 (c.r.held.map pceCells)] (by kernel_rfl) (by kernel_rfl)).trans <| kF 3 0 [1,4,6,7]) ?_
 rintro ⟨⟨s,L,A,cap⟩,HS,HL,HR⟩
 try dsimp only
 try dsimp only at HS HL HR
 refine xw_block ?_
 refine kS ?_
 refine xw_join ⟨[(1,.v (.int .i64 window)),(4,.p 1 0),(6,.p 2 0),(7,.v (.slice A L.length cap)),(8,.p 3 0),(9,.v (.bool ((nextChunk s window (mssO c.o)).2)))],[⟨34,conL c (.slice Acrh c.r.held.length Ccrh)⟩,⟨34,conZ⟩,⟨34,conL { c with s := s } (.slice v1a c.r.held.length v1c)⟩,⟨89,chkL (nextChunk s window (mssO c.o)).1⟩],[],[rowF w.heap.size 36 13 (.slice A L.length cap) (L.map segCells),ownF w.heap.size (.slice v1a c.r.held.length v1c) 2 (c.r.held.map pceCells),slF (.slice Acrh c.r.held.length Ccrh) 2 (c.r.held.map pceCells)]⟩ ?_ ?_
 refine xe_region [] (by kernel_rfl) (fun ρ σ => ?_)
 refine kTD [0,1,2,3] [32,31,30,1,4,6,7] 8 [(32,.v (.agg (conL { c with s := s } (.slice v1a c.r.held.length v1c)).toArray)),(31,.v (.int .i64 window)),(30,.v (.agg (sndL s).toArray))] ?_
 refine kA [4,9] ⟨?_,?_⟩
 refine kSC 4 89 [.agg (conL { c with s := s } (.slice v1a c.r.held.length v1c)).toArray] (some 33) rfl (xc_b fun ww hf => yiMssFor_c ({ c with s := s }) (.slice v1a c.r.held.length v1c) ww ) ?_
 intro _
 refine kA [5,9] ⟨?_,?_⟩
 refine kSC 5 88 [.agg (sndL s).toArray,.int .i64 window,.int .i64 (mssO c.o)] (some 34) rfl (xc_b fun ww hf => yiNextChunk_c s window (mssO c.o) ww  (by first | omega | (rw [wrap_id (by omega) (by omega)]; omega))) ?_
 intro _
 refine kTD [6,7,8] [36,35,1,4,6,7] 3 [(36,.v (.bool ((nextChunk s window (mssO c.o)).2))),(35,.v (.agg (chkL (nextChunk s window (mssO c.o)).1).toArray))] ?_
 refine kA [9] ?_
 refine xs_box 9 ⟨89,chkL (⟨0,(⟨#[]⟩ : ByteArray),false⟩ : Chk)⟩ _ rfl (by kernel_rfl) (by kernel_rfl) (by kernel_rfl) (by kernel_rfl) rfl ?_
 refine kA [10] ?_
 refine kSS 10 3 0 (chkL (nextChunk s window (mssO c.o)).1) rfl ?_
 refine kTS [11] [9,8,1,4,6,7] 0 [(9,.v (.bool ((nextChunk s window (mssO c.o)).2))),(8,.p 3 0),(1,.v (.int .i64 window)),(4,.p 1 0),(6,.p 2 0),(7,.v (.slice A L.length cap))] ?_
 refine kZ ?_
 exact kF 4 0 [1,4,6,7,8,9]
 refine xs_box 9 ⟨89,chkL (⟨0,(⟨#[]⟩ : ByteArray),false⟩ : Chk)⟩ _ rfl (by kernel_rfl) (by kernel_rfl) (by kernel_rfl) (by kernel_rfl) rfl ?_
 refine kA [5] ?_
 refine kSC 5 88 [.agg (sndL s).toArray,.int .i64 window,.int .i64 (mssO c.o)] (some 34) rfl (xc_b fun ww hf => yiNextChunk_c s window (mssO c.o) ww  (by first | omega | (rw [wrap_id (by omega) (by omega)]; omega))) ?_
 intro _
 refine kTD [6,7,8] [36,35,8,1,4,6,7] 2 [(36,.v (.bool ((nextChunk s window (mssO c.o)).2))),(35,.v (.agg (chkL (nextChunk s window (mssO c.o)).1).toArray))] ?_
 refine kA [10] ?_
 refine kSS 10 3 0 (chkL (nextChunk s window (mssO c.o)).1) rfl ?_
 refine kTS [11] [9,8,1,4,6,7] 0 [(9,.v (.bool ((nextChunk s window (mssO c.o)).2))),(8,.p 3 0),(1,.v (.int .i64 window)),(4,.p 1 0),(6,.p 2 0),(7,.v (.slice A L.length cap))] ?_
 refine kZ ?_
 exact kF 4 0 [1,4,6,7,8,9]
 refine xs_box 9 ⟨89,chkL (⟨0,(⟨#[]⟩ : ByteArray),false⟩ : Chk)⟩ _ rfl (by kernel_rfl) (by kernel_rfl) (by kernel_rfl) (by kernel_rfl) rfl ?_
 refine kA [4] ?_
 refine kSC 4 89 [.agg (conL { c with s := s } (.slice v1a c.r.held.length v1c)).toArray] (some 33) rfl (xc_b fun ww hf => yiMssFor_c ({ c with s := s }) (.slice v1a c.r.held.length v1c) ww ) ?_
 intro _
 refine kA [5] ?_
 refine kSC 5 88 [.agg (sndL s).toArray,.int .i64 window,.int .i64 (mssO c.o)] (some 34) rfl (xc_b fun ww hf => yiNextChunk_c s window (mssO c.o) ww  (by first | omega | (rw [wrap_id (by omega) (by omega)]; omega))) ?_
 intro _
 refine kTD [6,7,8] [36,35,8,1,4,6,7] 2 [(36,.v (.bool ((nextChunk s window (mssO c.o)).2))),(35,.v (.agg (chkL (nextChunk s window (mssO c.o)).1).toArray))] ?_
 refine kA [10] ?_
 refine kSS 10 3 0 (chkL (nextChunk s window (mssO c.o)).1) rfl ?_
 refine kTS [11] [9,8,1,4,6,7] 0 [(9,.v (.bool ((nextChunk s window (mssO c.o)).2))),(8,.p 3 0),(1,.v (.int .i64 window)),(4,.p 1 0),(6,.p 2 0),(7,.v (.slice A L.length cap))] ?_
 refine kZ ?_
 exact kF 4 0 [1,4,6,7,8,9]
 refine kS ?_
 refine kQ ?_
 refine kED [1,4,6,7,8,38] [(38,.v (.bool (!((nextChunk s window (mssO c.o)).2))))] ?_
 refine kC (!((nextChunk s window (mssO c.o)).2)) (fun h6 => ?_) (fun h6 => ?_)
 have hno := not_t h6
 have hS := pumpS_end hno HS
 have hL := pumpL_end hno HL
 refine xw_exit ?_
 refine kS ?_
 refine kQ ?_
 refine kRS 4 [4,6,7,72] [(4,.p 1 0),(6,.p 2 0),(7,.v (.slice A L.length cap)),(72,.v (.bool (decide (((L.length : Nat) : Int) > 0))))] ?_
 refine kP 72 (decide (((L.length : Nat) : Int) > 0)) (fun h7 => ?_) (fun h7 => ?_)
 have h7p := of_decide_eq_true h7
 refine kED [4,6,7,76] [(76,.v (.bool (c.timer == 0)))] ?_
 refine kC (c.timer == 0) (fun h8 => ?_) (fun h8 => ?_)
 have h8p := eqT h8
 refine kG ?_
 refine kEU [4,6,7] [] 2 ⟨34,conL { c with s := s,timer := 3 } (.slice v1a c.r.held.length v1c)⟩ ?_
 refine kQ ?_
 refine kEU [4,5] [(5,.v (.slice A L.length cap))] 1 ⟨34,conL { c with s := s,timer := 3 } (.slice v1a c.r.held.length v1c)⟩ ?_
 refine kR ?_
 have hmod : pump c window = (({ c with s := s,timer := 3 }),L) := by first | (simp [pump, *]; done) | exact pump_yes hok hs8 hs7 hS hL (by first | exact HT.symm | (unfold tmr; rw [show L.isEmpty = decide (L.length = 0) from by cases L <;> rfl]; simp only [decide_eq_true_eq]; split <;> (try split) <;> omega))
 exact ⟨[.agg (conL { c with s := s,timer := 3 } (.slice v1a c.r.held.length v1c)).toArray,.slice A L.length cap],by kernel_rfl,fun w' hb hf ha => by rw [hmod]; exact xo2 ((v1a,v1c),(A,cap)) rfl rfl (pO (hf _ m1) hB) (pR (hf _ m0) hB) (Apart.sub2 ha (i := 1) (j := 0) rfl rfl (by decide) rfl (fun b h => h) (fun b h => rowF_blk h)) hb⟩
 have h8p := eqF h8
 refine kK ?_
 refine kQ ?_
 refine kEU [4,5] [(5,.v (.slice A L.length cap))] 1 ⟨34,conL { c with s := s } (.slice v1a c.r.held.length v1c)⟩ ?_
 refine kR ?_
 have hmod : pump c window = (({ c with s := s }),L) := by first | (simp [pump, *]; done) | exact pump_yes hok hs8 hs7 hS hL (by first | exact HT.symm | (unfold tmr; rw [show L.isEmpty = decide (L.length = 0) from by cases L <;> rfl]; simp only [decide_eq_true_eq]; split <;> (try split) <;> omega))
 exact ⟨[.agg (conL { c with s := s } (.slice v1a c.r.held.length v1c)).toArray,.slice A L.length cap],by kernel_rfl,fun w' hb hf ha => by rw [hmod]; exact xo2 ((v1a,v1c),(A,cap)) rfl rfl (pO (hf _ m1) hB) (pR (hf _ m0) hB) (Apart.sub2 ha (i := 1) (j := 0) rfl rfl (by decide) rfl (fun b h => h) (fun b h => rowF_blk h)) hb⟩
 have h7p := of_decide_eq_false h7
 refine kED [4,6,7,76] [(76,.v (.bool false))] ?_
 refine kN ?_
 refine kK ?_
 refine kQ ?_
 refine kEU [4,5] [(5,.v (.slice A L.length cap))] 1 ⟨34,conL { c with s := s } (.slice v1a c.r.held.length v1c)⟩ ?_
 refine kR ?_
 have hmod : pump c window = (({ c with s := s }),L) := by first | (simp [pump, *]; done) | exact pump_yes hok hs8 hs7 hS hL (by first | exact HT.symm | (unfold tmr; rw [show L.isEmpty = decide (L.length = 0) from by cases L <;> rfl]; simp only [decide_eq_true_eq]; split <;> (try split) <;> omega))
 exact ⟨[.agg (conL { c with s := s } (.slice v1a c.r.held.length v1c)).toArray,.slice A L.length cap],by kernel_rfl,fun w' hb hf ha => by rw [hmod]; exact xo2 ((v1a,v1c),(A,cap)) rfl rfl (pO (hf _ m1) hB) (pR (hf _ m0) hB) (Apart.sub2 ha (i := 1) (j := 0) rfl rfl (by decide) rfl (fun b h => h) (fun b h => rowF_blk h)) hb⟩
 have hyes := not_f h6
 refine kK ?_
 refine kQ ?_
 refine kCS 1 [1,4,6,7,8,39] [(1,.v (.int .i64 window)),(4,.p 1 0),(6,.p 2 0),(7,.v (.slice A L.length cap)),(8,.p 3 0),(39,.v (.agg (conL { c with s := s } (.slice v1a c.r.held.length v1c)).toArray))] 69 [.agg (conL { c with s := s } (.slice v1a c.r.held.length v1c)).toArray] (some 40) rfl (xc_b fun ww hf => iAckOf_c c.t.ip c.t.port c.t.my c.state s.una s.data s.sent s.fin s.finSent s.done c.r.next c.r.data c.r.held (.slice v1a c.r.held.length v1c) c.r.fin c.r.done c.window c.most c.o.mss c.o.scale c.o.sack c.o.stamp c.o.val c.o.echo c.timer c.tries ww (by omega)) ?_
 intro _
 refine kEA [1,4,6,7,8,10] [(10,.p 4 0)] [⟨36,[.int .i64 c.t.my,.int .i64 c.t.port,.int .i64 (nextOf s),.int .i64 c.r.next,.int .i64 16,.int .i64 (windowOf c.r),.int .i64 0,.int .i64 (-1),.bool false,.bool false,.int .i64 0,.int .i64 0,.string (⟨#[]⟩ : ByteArray)]⟩] ?_
 refine kQ ?_
 refine kEU [1,4,6,7,8,10] [] 4 ⟨36,[.int .i64 c.t.my,.int .i64 c.t.port,.int .i64 ((nextChunk s window (mssO c.o)).1.seq),.int .i64 c.r.next,.int .i64 16,.int .i64 (windowOf c.r),.int .i64 0,.int .i64 (-1),.bool false,.bool false,.int .i64 0,.int .i64 0,.string (⟨#[]⟩ : ByteArray)]⟩ ?_
 refine kQ ?_
 refine kEU [1,4,6,7,8,10] [] 4 ⟨36,[.int .i64 c.t.my,.int .i64 c.t.port,.int .i64 ((nextChunk s window (mssO c.o)).1.seq),.int .i64 c.r.next,.int .i64 16,.int .i64 (windowOf c.r),.int .i64 0,.int .i64 (-1),.bool false,.bool false,.int .i64 0,.int .i64 0,.string ((nextChunk s window (mssO c.o)).1.text)]⟩ ?_
 refine kS ?_
 refine kQ ?_
 refine kED [1,4,6,7,8,10,49] [(49,.v (.bool (!(((nextChunk s window (mssO c.o)).1.text).toList == (⟨#[]⟩ : ByteArray).toList))))] ?_
 refine kC (!(((nextChunk s window (mssO c.o)).1.text).toList == (⟨#[]⟩ : ByteArray).toList)) (fun h9 => ?_) (fun h9 => ?_)
 have hT : (nextChunk s window (mssO c.o)).1.text.toList.isEmpty = false := by simpa [toList_lit0] using h9
 refine kG ?_
 refine kEU [1,4,6,7,8,10] [] 4 ⟨36,[.int .i64 c.t.my,.int .i64 c.t.port,.int .i64 ((nextChunk s window (mssO c.o)).1.seq),.int .i64 c.r.next,.int .i64 24,.int .i64 (windowOf c.r),.int .i64 0,.int .i64 (-1),.bool false,.bool false,.int .i64 0,.int .i64 0,.string ((nextChunk s window (mssO c.o)).1.text)]⟩ ?_
 refine kS ?_
 refine kQ ?_
 refine kED [1,4,6,7,8,10,55] [(55,.v (.bool ((nextChunk s window (mssO c.o)).1.fin)))] ?_
 refine kC ((nextChunk s window (mssO c.o)).1.fin) (fun h10 => ?_) (fun h10 => ?_)
 have hF := h10
 refine kG ?_
 refine kEU [1,4,6,7,8,10] [] 4 ⟨36,[.int .i64 c.t.my,.int .i64 c.t.port,.int .i64 ((nextChunk s window (mssO c.o)).1.seq),.int .i64 c.r.next,.int .i64 25,.int .i64 (windowOf c.r),.int .i64 0,.int .i64 (-1),.bool false,.bool false,.int .i64 0,.int .i64 0,.string ((nextChunk s window (mssO c.o)).1.text)]⟩ ?_
 refine kQ ?_
 refine kHD 2 [1,4,6,7,8,60,61] [(60,.v (.slice A L.length cap)),(61,.v (.agg #[.int .i64 c.t.my,.int .i64 c.t.port,.int .i64 ((nextChunk s window (mssO c.o)).1.seq),.int .i64 c.r.next,.int .i64 25,.int .i64 (windowOf c.r),.int .i64 0,.int .i64 (-1),.bool false,.bool false,.int .i64 0,.int .i64 0,.string ((nextChunk s window (mssO c.o)).1.text)]))] rfl (hv_build (e := 36) (K := 13) (bytes := 104) [.agg #[.int .i64 c.t.my,.int .i64 c.t.port,.int .i64 ((nextChunk s window (mssO c.o)).1.seq),.int .i64 c.r.next,.int .i64 25,.int .i64 (windowOf c.r),.int .i64 0,.int .i64 (-1),.bool false,.bool false,.int .i64 0,.int .i64 0,.string ((nextChunk s window (mssO c.o)).1.text)]] rfl (by kernel_rfl) (by kernel_rfl) (by kernel_rfl) (by kernel_rfl) (by kernel_rfl) (rs := ([⟨c.t.my,c.t.port,(nextChunk s window (mssO c.o)).1.seq,c.r.next,25,windowOf c.r,⟨0,(-1),false,false,0,0⟩,(nextChunk s window (mssO c.o)).1.text⟩] : List Seg).map segCells) rfl) ?_
 intro g11
 refine kHD 0 [1,4,6,7,8,60,62] [] rfl (hv_append (e := 36) (K := 13) (bytes := 104) (i := 1) (q := (L ++ ([⟨c.t.my,c.t.port,(nextChunk s window (mssO c.o)).1.seq,c.r.next,25,windowOf c.r,⟨0,(-1),false,false,0,0⟩,(nextChunk s window (mssO c.o)).1.text⟩] : List Seg)).length) (new := ([⟨c.t.my,c.t.port,(nextChunk s window (mssO c.o)).1.seq,c.r.next,25,windowOf c.r,⟨0,(-1),false,false,0,0⟩,(nextChunk s window (mssO c.o)).1.text⟩] : List Seg).map segCells) (rs' := (L ++ ([⟨c.t.my,c.t.port,(nextChunk s window (mssO c.o)).1.seq,c.r.next,25,windowOf c.r,⟨0,(-1),false,false,0,0⟩,(nextChunk s window (mssO c.o)).1.text⟩] : List Seg)).map segCells) rfl rfl rfl rfl (by kernel_rfl) (by kernel_rfl) (by kernel_rfl) rfl (by simp) (by rw [List.map_append]) (by simp) (fun ww hf => (rowF_sl (hf (rowF w.heap.size 36 13 (.slice (some ⟨g11,0,none⟩) 1 1) (([⟨c.t.my,c.t.port,(nextChunk s window (mssO c.o)).1.seq,c.r.next,25,windowOf c.r,⟨0,(-1),false,false,0,0⟩,(nextChunk s window (mssO c.o)).1.text⟩] : List Seg).map segCells)) (by simp)))) (by intro r hr; obtain ⟨x,hx,rfl⟩ := List.mem_map.1 hr; exact ⟨rfl,by simp [segCells,Value.oneCell']⟩) (by (try simp only [List.length_map,List.length_append,List.length_cons,List.length_nil,List.length_take,List.length_drop,maxLen]); omega) (by (try simp only [List.length_map,List.length_append,List.length_cons,List.length_nil,List.length_take,List.length_drop,maxLen]); omega)) ?_
 rintro ⟨v12a,v12c⟩
 refine kED [1,4,6,7,8] [(7,.v (.slice v12a ((L ++ ([⟨c.t.my,c.t.port,(nextChunk s window (mssO c.o)).1.seq,c.r.next,25,windowOf c.r,⟨0,(-1),false,false,0,0⟩,(nextChunk s window (mssO c.o)).1.text⟩] : List Seg)).length) v12c))] ?_
 refine kG ?_
 refine kCS 3 [1,4,6,7,65,66] [(1,.v (.int .i64 window)),(4,.p 1 0),(6,.p 2 0),(7,.v (.slice v12a ((L ++ ([⟨c.t.my,c.t.port,(nextChunk s window (mssO c.o)).1.seq,c.r.next,25,windowOf c.r,⟨0,(-1),false,false,0,0⟩,(nextChunk s window (mssO c.o)).1.text⟩] : List Seg)).length) v12c)),(65,.v (.agg (sndL s).toArray)),(66,.v (.agg (chkL (nextChunk s window (mssO c.o)).1).toArray))] 90 [.agg (sndL s).toArray,.agg (chkL (nextChunk s window (mssO c.o)).1).toArray] (some 67) rfl (xc_b fun ww hf => yiSentOff_c s ((nextChunk s window (mssO c.o)).1) ww  ) ?_
 intro _
 refine kEU [1,4,6,7] [] 2 ⟨34,conL { c with s := (sentOff s ((nextChunk s window (mssO c.o)).1)) } (.slice v1a c.r.held.length v1c)⟩ ?_
 have hrow : segOf c (nextChunk s window (mssO c.o)).1 = ⟨c.t.my,c.t.port,(nextChunk s window (mssO c.o)).1.seq,c.r.next,25,windowOf c.r,⟨0,(-1),false,false,0,0⟩,(nextChunk s window (mssO c.o)).1.text⟩ := by simp [segOf,hT,hF]
 exact ⟨⟨(sentOff s (nextChunk s window (mssO c.o)).1,(L ++ ([⟨c.t.my,c.t.port,(nextChunk s window (mssO c.o)).1.seq,c.r.next,25,windowOf c.r,⟨0,(-1),false,false,0,0⟩,(nextChunk s window (mssO c.o)).1.text⟩] : List Seg)),v12a,v12c),⟨pumpS_step hyes HS,pumpL_step hyes hrow HL,row_len HR (meas_next hyes)⟩⟩,(wk_pick [0,2,3] [rowF w.heap.size 36 13 (.slice v12a ((L ++ ([⟨c.t.my,c.t.port,(nextChunk s window (mssO c.o)).1.seq,c.r.next,25,windowOf c.r,⟨0,(-1),false,false,0,0⟩,(nextChunk s window (mssO c.o)).1.text⟩] : List Seg)).length) v12c) ((L ++ ([⟨c.t.my,c.t.port,(nextChunk s window (mssO c.o)).1.seq,c.r.next,25,windowOf c.r,⟨0,(-1),false,false,0,0⟩,(nextChunk s window (mssO c.o)).1.text⟩] : List Seg)).map segCells),ownF w.heap.size (.slice v1a c.r.held.length v1c) 2 (c.r.held.map pceCells),slF (.slice Acrh c.r.held.length Ccrh) 2 (c.r.held.map pceCells)] (by kernel_rfl) (by kernel_rfl)).trans <| kF 3 0 [1,4,6,7],by show (fun (s : Snd) (L : List Seg) (A : Option Addr) (cap : Nat) => meas s) (sentOff s (nextChunk s window (mssO c.o)).1) (L ++ ([⟨c.t.my,c.t.port,(nextChunk s window (mssO c.o)).1.seq,c.r.next,25,windowOf c.r,⟨0,(-1),false,false,0,0⟩,(nextChunk s window (mssO c.o)).1.text⟩] : List Seg)) v12a v12c < meas s; exact meas_next hyes⟩
 have hF := h10
 refine kK ?_
 refine kQ ?_
 refine kHD 2 [1,4,6,7,8,60,61] [(60,.v (.slice A L.length cap)),(61,.v (.agg #[.int .i64 c.t.my,.int .i64 c.t.port,.int .i64 ((nextChunk s window (mssO c.o)).1.seq),.int .i64 c.r.next,.int .i64 24,.int .i64 (windowOf c.r),.int .i64 0,.int .i64 (-1),.bool false,.bool false,.int .i64 0,.int .i64 0,.string ((nextChunk s window (mssO c.o)).1.text)]))] rfl (hv_build (e := 36) (K := 13) (bytes := 104) [.agg #[.int .i64 c.t.my,.int .i64 c.t.port,.int .i64 ((nextChunk s window (mssO c.o)).1.seq),.int .i64 c.r.next,.int .i64 24,.int .i64 (windowOf c.r),.int .i64 0,.int .i64 (-1),.bool false,.bool false,.int .i64 0,.int .i64 0,.string ((nextChunk s window (mssO c.o)).1.text)]] rfl (by kernel_rfl) (by kernel_rfl) (by kernel_rfl) (by kernel_rfl) (by kernel_rfl) (rs := ([⟨c.t.my,c.t.port,(nextChunk s window (mssO c.o)).1.seq,c.r.next,24,windowOf c.r,⟨0,(-1),false,false,0,0⟩,(nextChunk s window (mssO c.o)).1.text⟩] : List Seg).map segCells) rfl) ?_
 intro g13
 refine kHD 0 [1,4,6,7,8,60,62] [] rfl (hv_append (e := 36) (K := 13) (bytes := 104) (i := 1) (q := (L ++ ([⟨c.t.my,c.t.port,(nextChunk s window (mssO c.o)).1.seq,c.r.next,24,windowOf c.r,⟨0,(-1),false,false,0,0⟩,(nextChunk s window (mssO c.o)).1.text⟩] : List Seg)).length) (new := ([⟨c.t.my,c.t.port,(nextChunk s window (mssO c.o)).1.seq,c.r.next,24,windowOf c.r,⟨0,(-1),false,false,0,0⟩,(nextChunk s window (mssO c.o)).1.text⟩] : List Seg).map segCells) (rs' := (L ++ ([⟨c.t.my,c.t.port,(nextChunk s window (mssO c.o)).1.seq,c.r.next,24,windowOf c.r,⟨0,(-1),false,false,0,0⟩,(nextChunk s window (mssO c.o)).1.text⟩] : List Seg)).map segCells) rfl rfl rfl rfl (by kernel_rfl) (by kernel_rfl) (by kernel_rfl) rfl (by simp) (by rw [List.map_append]) (by simp) (fun ww hf => (rowF_sl (hf (rowF w.heap.size 36 13 (.slice (some ⟨g13,0,none⟩) 1 1) (([⟨c.t.my,c.t.port,(nextChunk s window (mssO c.o)).1.seq,c.r.next,24,windowOf c.r,⟨0,(-1),false,false,0,0⟩,(nextChunk s window (mssO c.o)).1.text⟩] : List Seg).map segCells)) (by simp)))) (by intro r hr; obtain ⟨x,hx,rfl⟩ := List.mem_map.1 hr; exact ⟨rfl,by simp [segCells,Value.oneCell']⟩) (by (try simp only [List.length_map,List.length_append,List.length_cons,List.length_nil,List.length_take,List.length_drop,maxLen]); omega) (by (try simp only [List.length_map,List.length_append,List.length_cons,List.length_nil,List.length_take,List.length_drop,maxLen]); omega)) ?_
 rintro ⟨v14a,v14c⟩
 refine kED [1,4,6,7,8] [(7,.v (.slice v14a ((L ++ ([⟨c.t.my,c.t.port,(nextChunk s window (mssO c.o)).1.seq,c.r.next,24,windowOf c.r,⟨0,(-1),false,false,0,0⟩,(nextChunk s window (mssO c.o)).1.text⟩] : List Seg)).length) v14c))] ?_
 refine kG ?_
 refine kCD 3 [1,4,6,7,65,66] [(65,.v (.agg (sndL s).toArray)),(66,.v (.agg (chkL (nextChunk s window (mssO c.o)).1).toArray))] 90 [.agg (sndL s).toArray,.agg (chkL (nextChunk s window (mssO c.o)).1).toArray] (some 67) rfl (xc_b fun ww hf => yiSentOff_c s ((nextChunk s window (mssO c.o)).1) ww  ) ?_
 intro _
 refine kEF [1,4,6,7] ⟨[(1,.v (.int .i64 window)),(4,.p 1 0),(6,.p 2 0),(7,.v (.slice v14a ((L ++ ([⟨c.t.my,c.t.port,(nextChunk s window (mssO c.o)).1.seq,c.r.next,24,windowOf c.r,⟨0,(-1),false,false,0,0⟩,(nextChunk s window (mssO c.o)).1.text⟩] : List Seg)).length) v14c))],[⟨34,conL c (.slice Acrh c.r.held.length Ccrh)⟩,⟨34,conZ⟩,⟨34,conL { c with s := (sentOff s ((nextChunk s window (mssO c.o)).1)) } (.slice v1a c.r.held.length v1c)⟩,⟨89,chkL (nextChunk s window (mssO c.o)).1⟩,⟨36,[.int .i64 c.t.my,.int .i64 c.t.port,.int .i64 ((nextChunk s window (mssO c.o)).1.seq),.int .i64 c.r.next,.int .i64 24,.int .i64 (windowOf c.r),.int .i64 0,.int .i64 (-1),.bool false,.bool false,.int .i64 0,.int .i64 0,.string ((nextChunk s window (mssO c.o)).1.text)]⟩],[],[rowF w.heap.size 36 13 (.slice v14a ((L ++ ([⟨c.t.my,c.t.port,(nextChunk s window (mssO c.o)).1.seq,c.r.next,24,windowOf c.r,⟨0,(-1),false,false,0,0⟩,(nextChunk s window (mssO c.o)).1.text⟩] : List Seg)).length) v14c) ((L ++ ([⟨c.t.my,c.t.port,(nextChunk s window (mssO c.o)).1.seq,c.r.next,24,windowOf c.r,⟨0,(-1),false,false,0,0⟩,(nextChunk s window (mssO c.o)).1.text⟩] : List Seg)).map segCells),rowF w.heap.size 36 13 (.slice (some ⟨g13,0,none⟩) 1 1) (([⟨c.t.my,c.t.port,(nextChunk s window (mssO c.o)).1.seq,c.r.next,24,windowOf c.r,⟨0,(-1),false,false,0,0⟩,(nextChunk s window (mssO c.o)).1.text⟩] : List Seg).map segCells),ownF w.heap.size (.slice v1a c.r.held.length v1c) 2 (c.r.held.map pceCells),slF (.slice Acrh c.r.held.length Ccrh) 2 (c.r.held.map pceCells)]⟩ ?_
 have hrow : segOf c (nextChunk s window (mssO c.o)).1 = ⟨c.t.my,c.t.port,(nextChunk s window (mssO c.o)).1.seq,c.r.next,24,windowOf c.r,⟨0,(-1),false,false,0,0⟩,(nextChunk s window (mssO c.o)).1.text⟩ := by simp [segOf,hT,hF]
 exact ⟨⟨(sentOff s (nextChunk s window (mssO c.o)).1,(L ++ ([⟨c.t.my,c.t.port,(nextChunk s window (mssO c.o)).1.seq,c.r.next,24,windowOf c.r,⟨0,(-1),false,false,0,0⟩,(nextChunk s window (mssO c.o)).1.text⟩] : List Seg)),v14a,v14c),⟨pumpS_step hyes HS,pumpL_step hyes hrow HL,row_len HR (meas_next hyes)⟩⟩,(wk_pick [0,2,3] [rowF w.heap.size 36 13 (.slice v14a ((L ++ ([⟨c.t.my,c.t.port,(nextChunk s window (mssO c.o)).1.seq,c.r.next,24,windowOf c.r,⟨0,(-1),false,false,0,0⟩,(nextChunk s window (mssO c.o)).1.text⟩] : List Seg)).length) v14c) ((L ++ ([⟨c.t.my,c.t.port,(nextChunk s window (mssO c.o)).1.seq,c.r.next,24,windowOf c.r,⟨0,(-1),false,false,0,0⟩,(nextChunk s window (mssO c.o)).1.text⟩] : List Seg)).map segCells),ownF w.heap.size (.slice v1a c.r.held.length v1c) 2 (c.r.held.map pceCells),slF (.slice Acrh c.r.held.length Ccrh) 2 (c.r.held.map pceCells)] (by kernel_rfl) (by kernel_rfl)).trans <| kF 3 0 [1,4,6,7],by show (fun (s : Snd) (L : List Seg) (A : Option Addr) (cap : Nat) => meas s) (sentOff s (nextChunk s window (mssO c.o)).1) (L ++ ([⟨c.t.my,c.t.port,(nextChunk s window (mssO c.o)).1.seq,c.r.next,24,windowOf c.r,⟨0,(-1),false,false,0,0⟩,(nextChunk s window (mssO c.o)).1.text⟩] : List Seg)) v14a v14c < meas s; exact meas_next hyes⟩
 have hT : (nextChunk s window (mssO c.o)).1.text.toList.isEmpty = true := by simpa [toList_lit0] using h9
 refine kK ?_
 refine kS ?_
 refine kQ ?_
 refine kED [1,4,6,7,8,10,55] [(55,.v (.bool ((nextChunk s window (mssO c.o)).1.fin)))] ?_
 refine kC ((nextChunk s window (mssO c.o)).1.fin) (fun h15 => ?_) (fun h15 => ?_)
 have hF := h15
 refine kG ?_
 refine kEU [1,4,6,7,8,10] [] 4 ⟨36,[.int .i64 c.t.my,.int .i64 c.t.port,.int .i64 ((nextChunk s window (mssO c.o)).1.seq),.int .i64 c.r.next,.int .i64 17,.int .i64 (windowOf c.r),.int .i64 0,.int .i64 (-1),.bool false,.bool false,.int .i64 0,.int .i64 0,.string ((nextChunk s window (mssO c.o)).1.text)]⟩ ?_
 refine kQ ?_
 refine kHD 2 [1,4,6,7,8,60,61] [(60,.v (.slice A L.length cap)),(61,.v (.agg #[.int .i64 c.t.my,.int .i64 c.t.port,.int .i64 ((nextChunk s window (mssO c.o)).1.seq),.int .i64 c.r.next,.int .i64 17,.int .i64 (windowOf c.r),.int .i64 0,.int .i64 (-1),.bool false,.bool false,.int .i64 0,.int .i64 0,.string ((nextChunk s window (mssO c.o)).1.text)]))] rfl (hv_build (e := 36) (K := 13) (bytes := 104) [.agg #[.int .i64 c.t.my,.int .i64 c.t.port,.int .i64 ((nextChunk s window (mssO c.o)).1.seq),.int .i64 c.r.next,.int .i64 17,.int .i64 (windowOf c.r),.int .i64 0,.int .i64 (-1),.bool false,.bool false,.int .i64 0,.int .i64 0,.string ((nextChunk s window (mssO c.o)).1.text)]] rfl (by kernel_rfl) (by kernel_rfl) (by kernel_rfl) (by kernel_rfl) (by kernel_rfl) (rs := ([⟨c.t.my,c.t.port,(nextChunk s window (mssO c.o)).1.seq,c.r.next,17,windowOf c.r,⟨0,(-1),false,false,0,0⟩,(nextChunk s window (mssO c.o)).1.text⟩] : List Seg).map segCells) rfl) ?_
 intro g16
 refine kHD 0 [1,4,6,7,8,60,62] [] rfl (hv_append (e := 36) (K := 13) (bytes := 104) (i := 1) (q := (L ++ ([⟨c.t.my,c.t.port,(nextChunk s window (mssO c.o)).1.seq,c.r.next,17,windowOf c.r,⟨0,(-1),false,false,0,0⟩,(nextChunk s window (mssO c.o)).1.text⟩] : List Seg)).length) (new := ([⟨c.t.my,c.t.port,(nextChunk s window (mssO c.o)).1.seq,c.r.next,17,windowOf c.r,⟨0,(-1),false,false,0,0⟩,(nextChunk s window (mssO c.o)).1.text⟩] : List Seg).map segCells) (rs' := (L ++ ([⟨c.t.my,c.t.port,(nextChunk s window (mssO c.o)).1.seq,c.r.next,17,windowOf c.r,⟨0,(-1),false,false,0,0⟩,(nextChunk s window (mssO c.o)).1.text⟩] : List Seg)).map segCells) rfl rfl rfl rfl (by kernel_rfl) (by kernel_rfl) (by kernel_rfl) rfl (by simp) (by rw [List.map_append]) (by simp) (fun ww hf => (rowF_sl (hf (rowF w.heap.size 36 13 (.slice (some ⟨g16,0,none⟩) 1 1) (([⟨c.t.my,c.t.port,(nextChunk s window (mssO c.o)).1.seq,c.r.next,17,windowOf c.r,⟨0,(-1),false,false,0,0⟩,(nextChunk s window (mssO c.o)).1.text⟩] : List Seg).map segCells)) (by simp)))) (by intro r hr; obtain ⟨x,hx,rfl⟩ := List.mem_map.1 hr; exact ⟨rfl,by simp [segCells,Value.oneCell']⟩) (by (try simp only [List.length_map,List.length_append,List.length_cons,List.length_nil,List.length_take,List.length_drop,maxLen]); omega) (by (try simp only [List.length_map,List.length_append,List.length_cons,List.length_nil,List.length_take,List.length_drop,maxLen]); omega)) ?_
 rintro ⟨v17a,v17c⟩
 refine kED [1,4,6,7,8] [(7,.v (.slice v17a ((L ++ ([⟨c.t.my,c.t.port,(nextChunk s window (mssO c.o)).1.seq,c.r.next,17,windowOf c.r,⟨0,(-1),false,false,0,0⟩,(nextChunk s window (mssO c.o)).1.text⟩] : List Seg)).length) v17c))] ?_
 refine kG ?_
 refine kCD 3 [1,4,6,7,65,66] [(65,.v (.agg (sndL s).toArray)),(66,.v (.agg (chkL (nextChunk s window (mssO c.o)).1).toArray))] 90 [.agg (sndL s).toArray,.agg (chkL (nextChunk s window (mssO c.o)).1).toArray] (some 67) rfl (xc_b fun ww hf => yiSentOff_c s ((nextChunk s window (mssO c.o)).1) ww  ) ?_
 intro _
 refine kEF [1,4,6,7] ⟨[(1,.v (.int .i64 window)),(4,.p 1 0),(6,.p 2 0),(7,.v (.slice v17a ((L ++ ([⟨c.t.my,c.t.port,(nextChunk s window (mssO c.o)).1.seq,c.r.next,17,windowOf c.r,⟨0,(-1),false,false,0,0⟩,(nextChunk s window (mssO c.o)).1.text⟩] : List Seg)).length) v17c))],[⟨34,conL c (.slice Acrh c.r.held.length Ccrh)⟩,⟨34,conZ⟩,⟨34,conL { c with s := (sentOff s ((nextChunk s window (mssO c.o)).1)) } (.slice v1a c.r.held.length v1c)⟩,⟨89,chkL (nextChunk s window (mssO c.o)).1⟩,⟨36,[.int .i64 c.t.my,.int .i64 c.t.port,.int .i64 ((nextChunk s window (mssO c.o)).1.seq),.int .i64 c.r.next,.int .i64 17,.int .i64 (windowOf c.r),.int .i64 0,.int .i64 (-1),.bool false,.bool false,.int .i64 0,.int .i64 0,.string ((nextChunk s window (mssO c.o)).1.text)]⟩],[],[rowF w.heap.size 36 13 (.slice v17a ((L ++ ([⟨c.t.my,c.t.port,(nextChunk s window (mssO c.o)).1.seq,c.r.next,17,windowOf c.r,⟨0,(-1),false,false,0,0⟩,(nextChunk s window (mssO c.o)).1.text⟩] : List Seg)).length) v17c) ((L ++ ([⟨c.t.my,c.t.port,(nextChunk s window (mssO c.o)).1.seq,c.r.next,17,windowOf c.r,⟨0,(-1),false,false,0,0⟩,(nextChunk s window (mssO c.o)).1.text⟩] : List Seg)).map segCells),rowF w.heap.size 36 13 (.slice (some ⟨g16,0,none⟩) 1 1) (([⟨c.t.my,c.t.port,(nextChunk s window (mssO c.o)).1.seq,c.r.next,17,windowOf c.r,⟨0,(-1),false,false,0,0⟩,(nextChunk s window (mssO c.o)).1.text⟩] : List Seg).map segCells),ownF w.heap.size (.slice v1a c.r.held.length v1c) 2 (c.r.held.map pceCells),slF (.slice Acrh c.r.held.length Ccrh) 2 (c.r.held.map pceCells)]⟩ ?_
 have hrow : segOf c (nextChunk s window (mssO c.o)).1 = ⟨c.t.my,c.t.port,(nextChunk s window (mssO c.o)).1.seq,c.r.next,17,windowOf c.r,⟨0,(-1),false,false,0,0⟩,(nextChunk s window (mssO c.o)).1.text⟩ := by simp [segOf,hT,hF]
 exact ⟨⟨(sentOff s (nextChunk s window (mssO c.o)).1,(L ++ ([⟨c.t.my,c.t.port,(nextChunk s window (mssO c.o)).1.seq,c.r.next,17,windowOf c.r,⟨0,(-1),false,false,0,0⟩,(nextChunk s window (mssO c.o)).1.text⟩] : List Seg)),v17a,v17c),⟨pumpS_step hyes HS,pumpL_step hyes hrow HL,row_len HR (meas_next hyes)⟩⟩,(wk_pick [0,2,3] [rowF w.heap.size 36 13 (.slice v17a ((L ++ ([⟨c.t.my,c.t.port,(nextChunk s window (mssO c.o)).1.seq,c.r.next,17,windowOf c.r,⟨0,(-1),false,false,0,0⟩,(nextChunk s window (mssO c.o)).1.text⟩] : List Seg)).length) v17c) ((L ++ ([⟨c.t.my,c.t.port,(nextChunk s window (mssO c.o)).1.seq,c.r.next,17,windowOf c.r,⟨0,(-1),false,false,0,0⟩,(nextChunk s window (mssO c.o)).1.text⟩] : List Seg)).map segCells),ownF w.heap.size (.slice v1a c.r.held.length v1c) 2 (c.r.held.map pceCells),slF (.slice Acrh c.r.held.length Ccrh) 2 (c.r.held.map pceCells)] (by kernel_rfl) (by kernel_rfl)).trans <| kF 3 0 [1,4,6,7],by show (fun (s : Snd) (L : List Seg) (A : Option Addr) (cap : Nat) => meas s) (sentOff s (nextChunk s window (mssO c.o)).1) (L ++ ([⟨c.t.my,c.t.port,(nextChunk s window (mssO c.o)).1.seq,c.r.next,17,windowOf c.r,⟨0,(-1),false,false,0,0⟩,(nextChunk s window (mssO c.o)).1.text⟩] : List Seg)) v17a v17c < meas s; exact meas_next hyes⟩
 have hF := h15
 refine kK ?_
 refine kQ ?_
 refine kHD 2 [1,4,6,7,8,60,61] [(60,.v (.slice A L.length cap)),(61,.v (.agg #[.int .i64 c.t.my,.int .i64 c.t.port,.int .i64 ((nextChunk s window (mssO c.o)).1.seq),.int .i64 c.r.next,.int .i64 16,.int .i64 (windowOf c.r),.int .i64 0,.int .i64 (-1),.bool false,.bool false,.int .i64 0,.int .i64 0,.string ((nextChunk s window (mssO c.o)).1.text)]))] rfl (hv_build (e := 36) (K := 13) (bytes := 104) [.agg #[.int .i64 c.t.my,.int .i64 c.t.port,.int .i64 ((nextChunk s window (mssO c.o)).1.seq),.int .i64 c.r.next,.int .i64 16,.int .i64 (windowOf c.r),.int .i64 0,.int .i64 (-1),.bool false,.bool false,.int .i64 0,.int .i64 0,.string ((nextChunk s window (mssO c.o)).1.text)]] rfl (by kernel_rfl) (by kernel_rfl) (by kernel_rfl) (by kernel_rfl) (by kernel_rfl) (rs := ([⟨c.t.my,c.t.port,(nextChunk s window (mssO c.o)).1.seq,c.r.next,16,windowOf c.r,⟨0,(-1),false,false,0,0⟩,(nextChunk s window (mssO c.o)).1.text⟩] : List Seg).map segCells) rfl) ?_
 intro g18
 refine kHD 0 [1,4,6,7,8,60,62] [] rfl (hv_append (e := 36) (K := 13) (bytes := 104) (i := 1) (q := (L ++ ([⟨c.t.my,c.t.port,(nextChunk s window (mssO c.o)).1.seq,c.r.next,16,windowOf c.r,⟨0,(-1),false,false,0,0⟩,(nextChunk s window (mssO c.o)).1.text⟩] : List Seg)).length) (new := ([⟨c.t.my,c.t.port,(nextChunk s window (mssO c.o)).1.seq,c.r.next,16,windowOf c.r,⟨0,(-1),false,false,0,0⟩,(nextChunk s window (mssO c.o)).1.text⟩] : List Seg).map segCells) (rs' := (L ++ ([⟨c.t.my,c.t.port,(nextChunk s window (mssO c.o)).1.seq,c.r.next,16,windowOf c.r,⟨0,(-1),false,false,0,0⟩,(nextChunk s window (mssO c.o)).1.text⟩] : List Seg)).map segCells) rfl rfl rfl rfl (by kernel_rfl) (by kernel_rfl) (by kernel_rfl) rfl (by simp) (by rw [List.map_append]) (by simp) (fun ww hf => (rowF_sl (hf (rowF w.heap.size 36 13 (.slice (some ⟨g18,0,none⟩) 1 1) (([⟨c.t.my,c.t.port,(nextChunk s window (mssO c.o)).1.seq,c.r.next,16,windowOf c.r,⟨0,(-1),false,false,0,0⟩,(nextChunk s window (mssO c.o)).1.text⟩] : List Seg).map segCells)) (by simp)))) (by intro r hr; obtain ⟨x,hx,rfl⟩ := List.mem_map.1 hr; exact ⟨rfl,by simp [segCells,Value.oneCell']⟩) (by (try simp only [List.length_map,List.length_append,List.length_cons,List.length_nil,List.length_take,List.length_drop,maxLen]); omega) (by (try simp only [List.length_map,List.length_append,List.length_cons,List.length_nil,List.length_take,List.length_drop,maxLen]); omega)) ?_
 rintro ⟨v19a,v19c⟩
 refine kED [1,4,6,7,8] [(7,.v (.slice v19a ((L ++ ([⟨c.t.my,c.t.port,(nextChunk s window (mssO c.o)).1.seq,c.r.next,16,windowOf c.r,⟨0,(-1),false,false,0,0⟩,(nextChunk s window (mssO c.o)).1.text⟩] : List Seg)).length) v19c))] ?_
 refine kG ?_
 refine kCD 3 [1,4,6,7,65,66] [(65,.v (.agg (sndL s).toArray)),(66,.v (.agg (chkL (nextChunk s window (mssO c.o)).1).toArray))] 90 [.agg (sndL s).toArray,.agg (chkL (nextChunk s window (mssO c.o)).1).toArray] (some 67) rfl (xc_b fun ww hf => yiSentOff_c s ((nextChunk s window (mssO c.o)).1) ww  ) ?_
 intro _
 refine kEU [1,4,6,7] [] 2 ⟨34,conL { c with s := (sentOff s ((nextChunk s window (mssO c.o)).1)) } (.slice v1a c.r.held.length v1c)⟩ ?_
 have hrow : segOf c (nextChunk s window (mssO c.o)).1 = ⟨c.t.my,c.t.port,(nextChunk s window (mssO c.o)).1.seq,c.r.next,16,windowOf c.r,⟨0,(-1),false,false,0,0⟩,(nextChunk s window (mssO c.o)).1.text⟩ := by simp [segOf,hT,hF]
 exact ⟨⟨(sentOff s (nextChunk s window (mssO c.o)).1,(L ++ ([⟨c.t.my,c.t.port,(nextChunk s window (mssO c.o)).1.seq,c.r.next,16,windowOf c.r,⟨0,(-1),false,false,0,0⟩,(nextChunk s window (mssO c.o)).1.text⟩] : List Seg)),v19a,v19c),⟨pumpS_step hyes HS,pumpL_step hyes hrow HL,row_len HR (meas_next hyes)⟩⟩,(wk_pick [0,2,3] [rowF w.heap.size 36 13 (.slice v19a ((L ++ ([⟨c.t.my,c.t.port,(nextChunk s window (mssO c.o)).1.seq,c.r.next,16,windowOf c.r,⟨0,(-1),false,false,0,0⟩,(nextChunk s window (mssO c.o)).1.text⟩] : List Seg)).length) v19c) ((L ++ ([⟨c.t.my,c.t.port,(nextChunk s window (mssO c.o)).1.seq,c.r.next,16,windowOf c.r,⟨0,(-1),false,false,0,0⟩,(nextChunk s window (mssO c.o)).1.text⟩] : List Seg)).map segCells),ownF w.heap.size (.slice v1a c.r.held.length v1c) 2 (c.r.held.map pceCells),slF (.slice Acrh c.r.held.length Ccrh) 2 (c.r.held.map pceCells)] (by kernel_rfl) (by kernel_rfl)).trans <| kF 3 0 [1,4,6,7],by show (fun (s : Snd) (L : List Seg) (A : Option Addr) (cap : Nat) => meas s) (sentOff s (nextChunk s window (mssO c.o)).1) (L ++ ([⟨c.t.my,c.t.port,(nextChunk s window (mssO c.o)).1.seq,c.r.next,16,windowOf c.r,⟨0,(-1),false,false,0,0⟩,(nextChunk s window (mssO c.o)).1.text⟩] : List Seg)) v19a v19c < meas s; exact meas_next hyes⟩
theorem ysShut_c (c : Con) (c_r_heldV : Value) (w : World) (hl_c_r_heldV : Sl w c_r_heldV 2 (c.r.held.map pceCells)) (hkn : c.r.held.length ≤ 1048576)(hm : ∀ p ∈ c.r.held, p.text.size ≤ 1048576) (hsz : c.r.data.size ≤ 4611686018427387904) (B : Nat) (hB : B ≤ w.heap.size) : Calls Tryz.prog 29 #[.agg (conL c c_r_heldV).toArray] w fun e w' => XRs w w' e (α := (Option Addr × Nat) × (Option Addr × Nat)) (fun y => .tuple #[.agg (conL (shut c).1 (.slice y.1.1 ((shut c).1.r.held.length) y.1.2)).toArray, .slice y.2.1 ((shut c).2.length) y.2.2]) (fun y => [ownF B (.slice y.1.1 ((shut c).1.r.held.length) y.1.2) 2 ((shut c).1.r.held.map pceCells), ownF B (.slice y.2.1 ((shut c).2.length) y.2.2) 13 ((shut c).2.map segCells)]) := by
 obtain ⟨Acrh,Ccrh,hvcrh⟩ := hl_c_r_heldV.form
 rw [List.length_map] at hvcrh; subst hvcrh
 have hncrh := hl_c_r_heldV.len; rw [List.length_map] at hncrh
 have hqcrh := Sl.capLe hl_c_r_heldV
 refine x_callsA (args := [.agg (conL c (.slice Acrh c.r.held.length Ccrh)).toArray]) (fn := Tryz.f29) [slF (.slice Acrh c.r.held.length Ccrh) 2 (c.r.held.map pceCells)] Tryz.func29 rfl Tryz.ntmps29 rfl (by simp only [List.mem_cons,List.not_mem_nil,or_false,forall_eq_or_imp,forall_eq]; exact ⟨rfl,hl_c_r_heldV⟩) ?_
 refine kQ ?_
 refine kEF [1,2] ⟨[(1,.p 0 0),(2,.p 1 0)],[⟨34,conL c (.slice Acrh c.r.held.length Ccrh)⟩,⟨34,conZ⟩],[],[slF (.slice Acrh c.r.held.length Ccrh) 2 (c.r.held.map pceCells)]⟩ ?_
 refine kQ ?_
 refine kCS 1 [1,2,5] [(1,.p 0 0),(2,.p 1 0),(5,.v (.agg (conL c (.slice Acrh c.r.held.length Ccrh)).toArray))] 70 [.agg (conL c (.slice Acrh c.r.held.length Ccrh)).toArray] (some 6) rfl (xc_r fun ww hw hf => yl19Copy_c c (.slice Acrh c.r.held.length Ccrh) ww (hf _ m0) (by assumption) w.heap.size hw) ?_
 rintro ⟨v1a,v1c⟩
 refine kEF [1,2,4] ⟨[(1,.p 0 0),(2,.p 1 0),(4,.p 2 0)],[⟨34,conL c (.slice Acrh c.r.held.length Ccrh)⟩,⟨34,conZ⟩,⟨34,conL c (.slice v1a c.r.held.length v1c)⟩],[],[ownF w.heap.size (.slice v1a c.r.held.length v1c) 2 (c.r.held.map pceCells),slF (.slice Acrh c.r.held.length Ccrh) 2 (c.r.held.map pceCells)]⟩ ?_
 refine kS ?_
 refine kS ?_
 refine xw_join ⟨[(1,.p 0 0),(2,.p 1 0),(4,.p 2 0),(19,.v (.bool ((!(conOk c)) || ((c.state != 1) && (c.state != 4)))))],[⟨34,conL c (.slice Acrh c.r.held.length Ccrh)⟩,⟨34,conZ⟩,⟨34,conL c (.slice v1a c.r.held.length v1c)⟩],[],[ownF w.heap.size (.slice v1a c.r.held.length v1c) 2 (c.r.held.map pceCells),slF (.slice Acrh c.r.held.length Ccrh) 2 (c.r.held.map pceCells)]⟩ ?_ ?_
 refine kG ?_
 refine kCS 1 [1,2,4,7] [(1,.p 0 0),(2,.p 1 0),(4,.p 2 0),(7,.v (.agg (conL c (.slice Acrh c.r.held.length Ccrh)).toArray))] 23 [.agg (conL c (.slice Acrh c.r.held.length Ccrh)).toArray] (some 8) rfl (xc_b fun ww hf => ysConnOk_c c (.slice Acrh c.r.held.length Ccrh) ww (hf _ m1) (by assumption) (by omega)) ?_
 intro _
 refine kRS 2 [1,2,4,10] [(1,.p 0 0),(2,.p 1 0),(4,.p 2 0),(10,.v (.bool (!(conOk c))))] ?_
 refine kP 10 (!(conOk c)) (fun h2 => ?_) (fun h2 => ?_)
 have h2n := not_t h2
 refine kES [1,2,4,19] [(1,.p 0 0),(2,.p 1 0),(4,.p 2 0),(19,.v (.bool true))] ?_
 show Wk _ _
 try rw [h2]
 exact kF 3 0 [1,2,4,19]
 have h2n := not_f h2
 have h2nc : conOk c = true := (by simpa using h2n)
 have h2nq := conOk_bd h2nc; obtain ⟨h2nq0,h2nq1,h2nq2,h2nq3,h2nq4,h2nq5,h2nq6,h2nq7,h2nq8,h2nq9⟩ := h2nq
 refine kRS 4 [1,2,4,10,14] [(1,.p 0 0),(2,.p 1 0),(4,.p 2 0),(10,.v (.bool false)),(14,.v (.bool (c.state != 1)))] ?_
 refine kP 14 (c.state != 1) (fun h3 => ?_) (fun h3 => ?_)
 have h3p := neT h3
 refine kES [1,2,4,19] [(1,.p 0 0),(2,.p 1 0),(4,.p 2 0),(19,.v (.bool (c.state != 4)))] ?_
 show Wk _ _
 try rw [h2]
 try rw [h3]
 exact kF 3 0 [1,2,4,19]
 have h3p := neF h3
 refine kES [1,2,4,19] [(1,.p 0 0),(2,.p 1 0),(4,.p 2 0),(19,.v (.bool false))] ?_
 show Wk _ _
 try rw [h2]
 try rw [h3]
 exact kF 3 0 [1,2,4,19]
 refine kC ((!(conOk c)) || ((c.state != 1) && (c.state != 4))) (fun h4 => ?_) (fun h4 => ?_)
 refine kQ ?_
 refine kHS 1 [2,20] [(2,.p 1 0),(20,.v (.agg (conL c (.slice v1a c.r.held.length v1c)).toArray))] rfl (hv_build (e := 36) (K := 13) (bytes := 104) [] rfl (by kernel_rfl) (by kernel_rfl) (by kernel_rfl) (by kernel_rfl) (by kernel_rfl) (rs := ([] : List Seg).map segCells) rfl) ?_
 intro g5
 refine kEF [2,3] ⟨[(2,.p 1 0),(3,.v (.slice (some ⟨g5,0,none⟩) 0 0))],[⟨34,conL c (.slice Acrh c.r.held.length Ccrh)⟩,⟨34,conL c (.slice v1a c.r.held.length v1c)⟩,⟨34,conL c (.slice v1a c.r.held.length v1c)⟩],[],[rowF w.heap.size 36 13 (.slice (some ⟨g5,0,none⟩) 0 0) (([] : List Seg).map segCells),ownF w.heap.size (.slice v1a c.r.held.length v1c) 2 (c.r.held.map pceCells),slF (.slice Acrh c.r.held.length Ccrh) 2 (c.r.held.map pceCells)]⟩ ?_
 refine kR ?_
 have hmod : shut c = (c,([] : List Seg)) := by first | rfl | (simp [shut, *]; done) | grind [shut]
 exact ⟨[.agg (conL c (.slice v1a c.r.held.length v1c)).toArray,.slice (some ⟨g5,0,none⟩) 0 0],by kernel_rfl,fun w' hb hf ha => by rw [hmod]; exact xo2 ((v1a,v1c),(((some ⟨g5,0,none⟩) : Option Addr),0)) rfl rfl (pO (hf _ m1) hB) (pR (hf _ m0) hB) (Apart.sub2 ha (i := 1) (j := 0) rfl rfl (by decide) rfl (fun b h => h) (fun b h => rowF_blk h)) hb⟩
 have h4l := or_l h4
 have h4ln := not_f h4l
 have h4lnc : conOk c = true := (by simpa using h4ln)
 have h4lnq := conOk_bd h4lnc; obtain ⟨h4lnq0,h4lnq1,h4lnq2,h4lnq3,h4lnq4,h4lnq5,h4lnq6,h4lnq7,h4lnq8,h4lnq9⟩ := h4lnq
 have h4r := or_r h4
 refine kK ?_
 refine kQ ?_
 refine kEF [1,2,4] ⟨[(1,.p 0 0),(2,.p 1 0),(4,.p 2 0)],[⟨34,conL c (.slice Acrh c.r.held.length Ccrh)⟩,⟨34,conZ⟩,⟨34,conL { c with s := { c.s with fin := true } } (.slice v1a c.r.held.length v1c)⟩],[],[ownF w.heap.size (.slice v1a c.r.held.length v1c) 2 (c.r.held.map pceCells),slF (.slice Acrh c.r.held.length Ccrh) 2 (c.r.held.map pceCells)]⟩ ?_
 refine kQ ?_
 refine kEF [1,2,4] ⟨[(1,.p 0 0),(2,.p 1 0),(4,.p 2 0)],[⟨34,conL c (.slice Acrh c.r.held.length Ccrh)⟩,⟨34,conZ⟩,⟨34,conL { c with state := 2,s := { c.s with fin := true } } (.slice v1a c.r.held.length v1c)⟩],[],[ownF w.heap.size (.slice v1a c.r.held.length v1c) 2 (c.r.held.map pceCells),slF (.slice Acrh c.r.held.length Ccrh) 2 (c.r.held.map pceCells)]⟩ ?_
 refine kS ?_
 refine kQ ?_
 refine kES [2,4,27] [(2,.p 1 0),(4,.p 2 0),(27,.v (.bool (c.state == 4)))] ?_
 refine xw_join ⟨[(2,.p 1 0),(4,.p 2 0)],[⟨34,conL c (.slice Acrh c.r.held.length Ccrh)⟩,⟨34,conZ⟩,⟨34,conL { c with state := if (c.state == 4) = true then 6 else 2,s := { c.s with fin := true } } (.slice v1a c.r.held.length v1c)⟩],[],[ownF w.heap.size (.slice v1a c.r.held.length v1c) 2 (c.r.held.map pceCells),slF (.slice Acrh c.r.held.length Ccrh) 2 (c.r.held.map pceCells)]⟩ ?_ ?_
 refine kC (c.state == 4) (fun h6 => ?_) (fun h6 => ?_)
 have h6p := eqT h6
 refine kG ?_
 refine kEF [2,4] ⟨[(2,.p 1 0),(4,.p 2 0)],[⟨34,conL c (.slice Acrh c.r.held.length Ccrh)⟩,⟨34,conZ⟩,⟨34,conL { c with state := 6,s := { c.s with fin := true } } (.slice v1a c.r.held.length v1c)⟩],[],[ownF w.heap.size (.slice v1a c.r.held.length v1c) 2 (c.r.held.map pceCells),slF (.slice Acrh c.r.held.length Ccrh) 2 (c.r.held.map pceCells)]⟩ ?_
 show Wk _ _; rw [h6]; exact kF 3 0 [2,4]
 have h6p := eqF h6
 refine kK ?_
 show Wk _ _; rw [h6]; exact kF 3 0 [2,4]
 refine kQ ?_
 refine kCS 3 [2,29,31] [(2,.p 1 0),(29,.v (.agg (conL { c with state := if (c.state == 4) = true then 6 else 2,s := { c.s with fin := true } } (.slice v1a c.r.held.length v1c)).toArray)),(31,.v (.int .i64 c.window))] 37 [.agg (conL { c with state := if (c.state == 4) = true then 6 else 2,s := { c.s with fin := true } } (.slice v1a c.r.held.length v1c)).toArray,.int .i64 c.window] (some 32) rfl (xc_r fun ww hw hf => ysPump_c ({ c with state := if (c.state == 4) = true then 6 else 2,s := { c.s with fin := true } }) (.slice v1a c.r.held.length v1c) c.window ww (Own.sl (hf _ m0)) (by assumption) (by assumption) (by omega) (by omega) w.heap.size hw) ?_
 rintro ⟨⟨v7a,v7c⟩,⟨v8a,v8c⟩⟩
 have hbd9 : (pump ({ c with state := if (c.state == 4) = true then 6 else 2,s := { c.s with fin := true } }) c.window).1.r.held.length ≤ 1048576 ∧ (pump ({ c with state := if (c.state == 4) = true then 6 else 2,s := { c.s with fin := true } }) c.window).2.length ≤ 49 := pump_bd _ _  (by omega)
 have hbd9a := hbd9.1; have hbd9b := hbd9.2
 refine kEF [2,3] ⟨[(2,.p 1 0),(3,.v (.slice v8a ((pump ({ c with state := if (c.state == 4) = true then 6 else 2,s := { c.s with fin := true } }) c.window).2.length) v8c))],[⟨34,conL c (.slice Acrh c.r.held.length Ccrh)⟩,⟨34,conL (pump ({ c with state := if (c.state == 4) = true then 6 else 2,s := { c.s with fin := true } }) c.window).1 (.slice v7a ((pump ({ c with state := if (c.state == 4) = true then 6 else 2,s := { c.s with fin := true } }) c.window).1.r.held.length) v7c)⟩,⟨34,conL { c with state := if (c.state == 4) = true then 6 else 2,s := { c.s with fin := true } } (.slice v1a c.r.held.length v1c)⟩],[],[ownF w.heap.size (.slice v7a ((pump ({ c with state := if (c.state == 4) = true then 6 else 2,s := { c.s with fin := true } }) c.window).1.r.held.length) v7c) 2 ((pump ({ c with state := if (c.state == 4) = true then 6 else 2,s := { c.s with fin := true } }) c.window).1.r.held.map pceCells),rowF w.heap.size 36 13 (.slice v8a ((pump ({ c with state := if (c.state == 4) = true then 6 else 2,s := { c.s with fin := true } }) c.window).2.length) v8c) ((pump ({ c with state := if (c.state == 4) = true then 6 else 2,s := { c.s with fin := true } }) c.window).2.map segCells),ownF w.heap.size (.slice v1a c.r.held.length v1c) 2 (c.r.held.map pceCells),slF (.slice Acrh c.r.held.length Ccrh) 2 (c.r.held.map pceCells)]⟩ ?_
 refine kR ?_
 have hmod : shut c = (((pump ({ c with state := if (c.state == 4) = true then 6 else 2,s := { c.s with fin := true } }) c.window).1),((pump ({ c with state := if (c.state == 4) = true then 6 else 2,s := { c.s with fin := true } }) c.window).2)) := by first | rfl | (simp [shut, *]; done) | grind [shut]
 exact ⟨[.agg (conL (pump ({ c with state := if (c.state == 4) = true then 6 else 2,s := { c.s with fin := true } }) c.window).1 (.slice v7a ((pump ({ c with state := if (c.state == 4) = true then 6 else 2,s := { c.s with fin := true } }) c.window).1.r.held.length) v7c)).toArray,.slice v8a ((pump ({ c with state := if (c.state == 4) = true then 6 else 2,s := { c.s with fin := true } }) c.window).2.length) v8c],by kernel_rfl,fun w' hb hf ha => by rw [hmod]; exact xo2 ((v7a,v7c),(v8a,v8c)) rfl rfl (pO (hf _ m0) hB) (pR (hf _ m1) hB) (Apart.sub2 ha (i := 0) (j := 1) rfl rfl (by decide) rfl (fun b h => h) (fun b h => rowF_blk h)) hb⟩
theorem ysWrite_c (c : Con) (c_r_heldV : Value) (text : ByteArray) (w : World) (hl_c_r_heldV : Sl w c_r_heldV 2 (c.r.held.map pceCells)) (hkn : c.r.held.length ≤ 1048576)(hm : ∀ p ∈ c.r.held, p.text.size ≤ 1048576) (hsz : c.r.data.size ≤ 4611686018427387904) (hts : text.size ≤ 4611686018427387904) (B : Nat) (hB : B ≤ w.heap.size) : Calls Tryz.prog 34 #[.agg (conL c c_r_heldV).toArray, .string text] w fun e w' => XRs w w' e (α := (Option Addr × Nat) × (Option Addr × Nat)) (fun y => .tuple #[.agg (conL (write c text).1 (.slice y.1.1 ((write c text).1.r.held.length) y.1.2)).toArray, .int .i64 ((write c text).2.1), .slice y.2.1 ((write c text).2.2.length) y.2.2]) (fun y => [ownF B (.slice y.1.1 ((write c text).1.r.held.length) y.1.2) 2 ((write c text).1.r.held.map pceCells), ownF B (.slice y.2.1 ((write c text).2.2.length) y.2.2) 13 ((write c text).2.2.map segCells)]) := by
 obtain ⟨Acrh,Ccrh,hvcrh⟩ := hl_c_r_heldV.form
 rw [List.length_map] at hvcrh; subst hvcrh
 have hncrh := hl_c_r_heldV.len; rw [List.length_map] at hncrh
 have hqcrh := Sl.capLe hl_c_r_heldV
 refine x_callsA (args := [.agg (conL c (.slice Acrh c.r.held.length Ccrh)).toArray,.string text]) (fn := Tryz.f34) [slF (.slice Acrh c.r.held.length Ccrh) 2 (c.r.held.map pceCells)] Tryz.func34 rfl Tryz.ntmps34 rfl (by simp only [List.mem_cons,List.not_mem_nil,or_false,forall_eq_or_imp,forall_eq]; exact ⟨rfl,hl_c_r_heldV⟩) ?_
 refine kQ ?_
 refine kEF [1,2,4] ⟨[(1,.v (.string text)),(2,.p 0 0),(4,.p 1 0)],[⟨34,conL c (.slice Acrh c.r.held.length Ccrh)⟩,⟨34,conZ⟩],[],[slF (.slice Acrh c.r.held.length Ccrh) 2 (c.r.held.map pceCells)]⟩ ?_
 refine kQ ?_
 refine kCS 1 [1,2,4,12] [(1,.v (.string text)),(2,.p 0 0),(4,.p 1 0),(12,.v (.agg (conL c (.slice Acrh c.r.held.length Ccrh)).toArray))] 70 [.agg (conL c (.slice Acrh c.r.held.length Ccrh)).toArray] (some 13) rfl (xc_r fun ww hw hf => yl19Copy_c c (.slice Acrh c.r.held.length Ccrh) ww (hf _ m0) (by assumption) w.heap.size hw) ?_
 rintro ⟨v1a,v1c⟩
 refine kEF [1,2,4,7] ⟨[(1,.v (.string text)),(2,.p 0 0),(4,.p 1 0),(7,.p 2 0)],[⟨34,conL c (.slice Acrh c.r.held.length Ccrh)⟩,⟨34,conZ⟩,⟨34,conL c (.slice v1a c.r.held.length v1c)⟩],[],[ownF w.heap.size (.slice v1a c.r.held.length v1c) 2 (c.r.held.map pceCells),slF (.slice Acrh c.r.held.length Ccrh) 2 (c.r.held.map pceCells)]⟩ ?_
 refine kS ?_
 refine kS ?_
 refine xw_join ⟨[(1,.v (.string text)),(2,.p 0 0),(4,.p 1 0),(7,.p 2 0),(26,.v (.bool ((!(conOk c)) || ((c.state != 1) && (c.state != 4)))))],[⟨34,conL c (.slice Acrh c.r.held.length Ccrh)⟩,⟨34,conZ⟩,⟨34,conL c (.slice v1a c.r.held.length v1c)⟩],[],[ownF w.heap.size (.slice v1a c.r.held.length v1c) 2 (c.r.held.map pceCells),slF (.slice Acrh c.r.held.length Ccrh) 2 (c.r.held.map pceCells)]⟩ ?_ ?_
 refine kG ?_
 refine kCS 1 [1,2,4,7,14] [(1,.v (.string text)),(2,.p 0 0),(4,.p 1 0),(7,.p 2 0),(14,.v (.agg (conL c (.slice Acrh c.r.held.length Ccrh)).toArray))] 23 [.agg (conL c (.slice Acrh c.r.held.length Ccrh)).toArray] (some 15) rfl (xc_b fun ww hf => ysConnOk_c c (.slice Acrh c.r.held.length Ccrh) ww (hf _ m1) (by assumption) (by omega)) ?_
 intro _
 refine kRS 2 [1,2,4,7,17] [(1,.v (.string text)),(2,.p 0 0),(4,.p 1 0),(7,.p 2 0),(17,.v (.bool (!(conOk c))))] ?_
 refine kP 17 (!(conOk c)) (fun h2 => ?_) (fun h2 => ?_)
 have h2n := not_t h2
 refine kES [1,2,4,7,26] [(1,.v (.string text)),(2,.p 0 0),(4,.p 1 0),(7,.p 2 0),(26,.v (.bool true))] ?_
 show Wk _ _
 try rw [h2]
 exact kF 3 0 [1,2,4,7,26]
 have h2n := not_f h2
 have h2nc : conOk c = true := (by simpa using h2n)
 have h2nq := conOk_bd h2nc; obtain ⟨h2nq0,h2nq1,h2nq2,h2nq3,h2nq4,h2nq5,h2nq6,h2nq7,h2nq8,h2nq9⟩ := h2nq
 refine kRS 4 [1,2,4,7,17,21] [(1,.v (.string text)),(2,.p 0 0),(4,.p 1 0),(7,.p 2 0),(17,.v (.bool false)),(21,.v (.bool (c.state != 1)))] ?_
 refine kP 21 (c.state != 1) (fun h3 => ?_) (fun h3 => ?_)
 have h3p := neT h3
 refine kES [1,2,4,7,26] [(1,.v (.string text)),(2,.p 0 0),(4,.p 1 0),(7,.p 2 0),(26,.v (.bool (c.state != 4)))] ?_
 show Wk _ _
 try rw [h2]
 try rw [h3]
 exact kF 3 0 [1,2,4,7,26]
 have h3p := neF h3
 refine kES [1,2,4,7,26] [(1,.v (.string text)),(2,.p 0 0),(4,.p 1 0),(7,.p 2 0),(26,.v (.bool false))] ?_
 show Wk _ _
 try rw [h2]
 try rw [h3]
 exact kF 3 0 [1,2,4,7,26]
 refine kC ((!(conOk c)) || ((c.state != 1) && (c.state != 4))) (fun h4 => ?_) (fun h4 => ?_)
 refine kQ ?_
 refine kHS 1 [4,27] [(4,.p 1 0),(27,.v (.agg (conL c (.slice v1a c.r.held.length v1c)).toArray))] rfl (hv_build (e := 36) (K := 13) (bytes := 104) [] rfl (by kernel_rfl) (by kernel_rfl) (by kernel_rfl) (by kernel_rfl) (by kernel_rfl) (rs := ([] : List Seg).map segCells) rfl) ?_
 intro g5
 refine kEF [4,5,6] ⟨[(4,.p 1 0),(5,.v (.int .i64 0)),(6,.v (.slice (some ⟨g5,0,none⟩) 0 0))],[⟨34,conL c (.slice Acrh c.r.held.length Ccrh)⟩,⟨34,conL c (.slice v1a c.r.held.length v1c)⟩,⟨34,conL c (.slice v1a c.r.held.length v1c)⟩],[],[rowF w.heap.size 36 13 (.slice (some ⟨g5,0,none⟩) 0 0) (([] : List Seg).map segCells),ownF w.heap.size (.slice v1a c.r.held.length v1c) 2 (c.r.held.map pceCells),slF (.slice Acrh c.r.held.length Ccrh) 2 (c.r.held.map pceCells)]⟩ ?_
 refine kR ?_
 have hmod : write c text = (c,0,([] : List Seg)) := by first | rfl | (simp [write, *]; done) | grind [write]
 exact ⟨[.agg (conL c (.slice v1a c.r.held.length v1c)).toArray,.int .i64 0,.slice (some ⟨g5,0,none⟩) 0 0],by kernel_rfl,fun w' hb hf ha => by rw [hmod]; exact xo2 ((v1a,v1c),(((some ⟨g5,0,none⟩) : Option Addr),0)) rfl rfl (pO (hf _ m1) hB) (pR (hf _ m0) hB) (Apart.sub2 ha (i := 1) (j := 0) rfl rfl (by decide) rfl (fun b h => h) (fun b h => rowF_blk h)) hb⟩
 have h4l := or_l h4
 have h4ln := not_f h4l
 have h4lnc : conOk c = true := (by simpa using h4ln)
 have h4lnq := conOk_bd h4lnc; obtain ⟨h4lnq0,h4lnq1,h4lnq2,h4lnq3,h4lnq4,h4lnq5,h4lnq6,h4lnq7,h4lnq8,h4lnq9⟩ := h4lnq
 have h4r := or_r h4
 refine kK ?_
 refine kQ ?_
 refine kCS 3 [4,7,31,32] [(4,.p 1 0),(7,.p 2 0),(31,.v (.agg (sndL c.s).toArray)),(32,.v (.string text))] 87 [.agg (sndL c.s).toArray,.string text] (some 33) rfl (xc_b fun ww hf => ysQueued_c c.s text ww  (by first | omega | (rw [bstr_size]; omega))) ?_
 intro _
 refine kEF [4,7,8,9] ⟨[(4,.p 1 0),(7,.p 2 0),(8,.p 3 0),(9,.v (.int .i64 ((queued c.s text).2)))],[⟨34,conL c (.slice Acrh c.r.held.length Ccrh)⟩,⟨34,conZ⟩,⟨34,conL c (.slice v1a c.r.held.length v1c)⟩,⟨27,sndL (queued c.s text).1⟩],[],[ownF w.heap.size (.slice v1a c.r.held.length v1c) 2 (c.r.held.map pceCells),slF (.slice Acrh c.r.held.length Ccrh) 2 (c.r.held.map pceCells)]⟩ ?_
 refine kQ ?_
 refine kEF [4,7,9] ⟨[(4,.p 1 0),(7,.p 2 0),(9,.v (.int .i64 ((queued c.s text).2)))],[⟨34,conL c (.slice Acrh c.r.held.length Ccrh)⟩,⟨34,conZ⟩,⟨34,conL { c with s := (queued c.s text).1 } (.slice v1a c.r.held.length v1c)⟩,⟨27,sndL (queued c.s text).1⟩],[],[ownF w.heap.size (.slice v1a c.r.held.length v1c) 2 (c.r.held.map pceCells),slF (.slice Acrh c.r.held.length Ccrh) 2 (c.r.held.map pceCells)]⟩ ?_
 refine kQ ?_
 refine kCS 3 [4,9,39,41] [(4,.p 1 0),(9,.v (.int .i64 ((queued c.s text).2))),(39,.v (.agg (conL { c with s := (queued c.s text).1 } (.slice v1a c.r.held.length v1c)).toArray)),(41,.v (.int .i64 c.window))] 37 [.agg (conL { c with s := (queued c.s text).1 } (.slice v1a c.r.held.length v1c)).toArray,.int .i64 c.window] (some 42) rfl (xc_r fun ww hw hf => ysPump_c ({ c with s := (queued c.s text).1 }) (.slice v1a c.r.held.length v1c) c.window ww (Own.sl (hf _ m0)) (by assumption) (by assumption) (by omega) (by omega) w.heap.size hw) ?_
 rintro ⟨⟨v6a,v6c⟩,⟨v7a,v7c⟩⟩
 have hbd8 : (pump ({ c with s := (queued c.s text).1 }) c.window).1.r.held.length ≤ 1048576 ∧ (pump ({ c with s := (queued c.s text).1 }) c.window).2.length ≤ 49 := pump_bd _ _  (by omega)
 have hbd8a := hbd8.1; have hbd8b := hbd8.2
 refine kEF [4,9,10,11] ⟨[(4,.p 1 0),(9,.v (.int .i64 ((queued c.s text).2))),(10,.p 4 0),(11,.v (.slice v7a ((pump ({ c with s := (queued c.s text).1 }) c.window).2.length) v7c))],[⟨34,conL c (.slice Acrh c.r.held.length Ccrh)⟩,⟨34,conZ⟩,⟨34,conL { c with s := (queued c.s text).1 } (.slice v1a c.r.held.length v1c)⟩,⟨27,sndL (queued c.s text).1⟩,⟨34,conL (pump ({ c with s := (queued c.s text).1 }) c.window).1 (.slice v6a ((pump ({ c with s := (queued c.s text).1 }) c.window).1.r.held.length) v6c)⟩],[],[ownF w.heap.size (.slice v6a ((pump ({ c with s := (queued c.s text).1 }) c.window).1.r.held.length) v6c) 2 ((pump ({ c with s := (queued c.s text).1 }) c.window).1.r.held.map pceCells),rowF w.heap.size 36 13 (.slice v7a ((pump ({ c with s := (queued c.s text).1 }) c.window).2.length) v7c) ((pump ({ c with s := (queued c.s text).1 }) c.window).2.map segCells),ownF w.heap.size (.slice v1a c.r.held.length v1c) 2 (c.r.held.map pceCells),slF (.slice Acrh c.r.held.length Ccrh) 2 (c.r.held.map pceCells)]⟩ ?_
 refine kQ ?_
 refine kEF [4,5,6] ⟨[(4,.p 1 0),(5,.v (.int .i64 ((queued c.s text).2))),(6,.v (.slice v7a ((pump ({ c with s := (queued c.s text).1 }) c.window).2.length) v7c))],[⟨34,conL c (.slice Acrh c.r.held.length Ccrh)⟩,⟨34,conL (pump ({ c with s := (queued c.s text).1 }) c.window).1 (.slice v6a ((pump ({ c with s := (queued c.s text).1 }) c.window).1.r.held.length) v6c)⟩,⟨34,conL { c with s := (queued c.s text).1 } (.slice v1a c.r.held.length v1c)⟩,⟨27,sndL (queued c.s text).1⟩,⟨34,conL (pump ({ c with s := (queued c.s text).1 }) c.window).1 (.slice v6a ((pump ({ c with s := (queued c.s text).1 }) c.window).1.r.held.length) v6c)⟩],[],[ownF w.heap.size (.slice v6a ((pump ({ c with s := (queued c.s text).1 }) c.window).1.r.held.length) v6c) 2 ((pump ({ c with s := (queued c.s text).1 }) c.window).1.r.held.map pceCells),rowF w.heap.size 36 13 (.slice v7a ((pump ({ c with s := (queued c.s text).1 }) c.window).2.length) v7c) ((pump ({ c with s := (queued c.s text).1 }) c.window).2.map segCells),ownF w.heap.size (.slice v1a c.r.held.length v1c) 2 (c.r.held.map pceCells),slF (.slice Acrh c.r.held.length Ccrh) 2 (c.r.held.map pceCells)]⟩ ?_
 refine kR ?_
 have hmod : write c text = (((pump ({ c with s := (queued c.s text).1 }) c.window).1),((queued c.s text).2),((pump ({ c with s := (queued c.s text).1 }) c.window).2)) := by first | rfl | (simp [write, *]; done) | grind [write]
 exact ⟨[.agg (conL (pump ({ c with s := (queued c.s text).1 }) c.window).1 (.slice v6a ((pump ({ c with s := (queued c.s text).1 }) c.window).1.r.held.length) v6c)).toArray,.int .i64 ((queued c.s text).2),.slice v7a ((pump ({ c with s := (queued c.s text).1 }) c.window).2.length) v7c],by kernel_rfl,fun w' hb hf ha => by rw [hmod]; exact xo2 ((v6a,v6c),(v7a,v7c)) rfl rfl (pO (hf _ m0) hB) (pR (hf _ m1) hB) (Apart.sub2 ha (i := 0) (j := 1) rfl rfl (by decide) rfl (fun b h => h) (fun b h => rowF_blk h)) hb⟩
end Go.Proofs.YtnmmhbhdcplfmaaGreat
