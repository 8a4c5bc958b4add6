/- Contracts that this law needs, part 2. -/
import Derived.Test.YtebgmdiejgcoiaaGreatZ1
namespace Go.Proofs.YtebgmdiejgcoiaaGreat
open Go.RowKit
set_option linter.unusedVariables false
set_option linter.unusedSimpArgs false
set_option maxRecDepth 100000
set_option maxHeartbeats 2000000

theorem yl21State_c (c : Con) (rV : Value) (w : World) (hZ : Sl w rV 2 (c.r.held.map pC))  : Calls Tryz.prog 125 #[.agg (conL c rV).toArray] w fun e w' => e = .returned (.int .i64 (tS c)) ∧ Below w.heap.size w w' := by
 obtain ⟨Z,Y,hY⟩ := hZ.form
 rw [List.length_map] at hY; subst hY
 have hJ := hZ.len; rw [List.length_map] at hJ
 have hqcrh := Sl.capLe hZ
 refine x_calls (args := [.agg (conL c (.slice Z c.r.held.length Y)).toArray]) (fn := Tryz.f125) [slF (.slice Z c.r.held.length Y) 2 (c.r.held.map pC)] Tryz.func125 rfl Tryz.ntmps125 rfl (by simp only [List.mem_cons,List.not_mem_nil,or_false,forall_eq_or_imp,forall_eq]; exact ⟨rfl,hZ⟩) ?_
 refine kQ ?_
 refine kEF [1] ⟨[(1,.p 0 0)],[⟨44,conL c (.slice Z c.r.held.length Y)⟩],[],[slF (.slice Z c.r.held.length Y) 2 (c.r.held.map pC)]⟩ ?_
 refine kS ?_
 refine kQ ?_
 refine kES [1,4] [(1,.p 0 0),(4,.v (.int .i64 c.state))] ?_
 refine xw_block ?_
 refine kQ ?_
 refine kES [1,4,5] [(1,.p 0 0),(4,.v (.int .i64 c.state)),(5,.v (.bool (c.state == 1)))] ?_
 refine kC (c.state == 1) (fun h1 => ?_) (fun h1 => ?_)
 have h1p := eqT h1
 refine kQ ?_
 refine kES [1,9] [(1,.p 0 0),(9,.v (.bool c.r.done))] ?_
 refine kC (c.r.done) (fun h2 => ?_) (fun h2 => ?_)
 refine kQ ?_
 refine kES [2] [(2,.v (.int .i64 4))] ?_
 refine kR ?_
 have hmod : tS c = 4 := by first | rfl | (simp [tS, *]; done) | grind [tS]
 exact ⟨[.int .i64 4],by kernel_rfl,fun w' hb hf => by rw [hmod]; exact ⟨rfl,hb⟩⟩
 refine kK ?_
 refine kQ ?_
 refine kES [2] [(2,.v (.int .i64 c.state))] ?_
 refine kR ?_
 have hmod : tS c = c.state := by first | rfl | (simp [tS, *]; done) | grind [tS]
 exact ⟨[.int .i64 c.state],by kernel_rfl,fun w' hb hf => by rw [hmod]; exact ⟨rfl,hb⟩⟩
 have h1p := eqF h1
 refine kQ ?_
 refine kES [1,4,10] [(1,.p 0 0),(4,.v (.int .i64 c.state)),(10,.v (.bool (c.state == 2)))] ?_
 refine kC (c.state == 2) (fun h3 => ?_) (fun h3 => ?_)
 have h3p := eqT h3
 refine xw_block ?_
 refine kS ?_
 refine xw_join ⟨[(1,.p 0 0),(12,.v (.bool (c.s.done && c.r.done)))],[⟨44,conL c (.slice Z c.r.held.length Y)⟩],[],[slF (.slice Z c.r.held.length Y) 2 (c.r.held.map pC)]⟩ ?_ ?_
 refine kG ?_
 refine kRS 4 [1,16] [(1,.p 0 0),(16,.v (.bool c.s.done))] ?_
 refine kP 16 (c.s.done) (fun h4 => ?_) (fun h4 => ?_)
 refine kES [1,12] [(1,.p 0 0),(12,.v (.bool c.r.done))] ?_
 show Wk _ _
 try rw [h4]
 exact kF 1 0 [1,12]
 refine kES [1,12] [(1,.p 0 0),(12,.v (.bool false))] ?_
 show Wk _ _
 try rw [h4]
 exact kF 1 0 [1,12]
 refine kC (c.s.done && c.r.done) (fun h5 => ?_) (fun h5 => ?_)
 have h5l := and_l h5
 have h5r := and_r h5
 refine kQ ?_
 refine kES [2] [(2,.v (.int .i64 7))] ?_
 refine kR ?_
 have hmod : tS c = 7 := by first | rfl | (simp [tS, *]; done) | grind [tS]
 exact ⟨[.int .i64 7],by kernel_rfl,fun w' hb hf => by rw [hmod]; exact ⟨rfl,hb⟩⟩
 refine kQ ?_
 refine kES [1,21] [(1,.p 0 0),(21,.v (.bool c.s.done))] ?_
 refine kC (c.s.done) (fun h6 => ?_) (fun h6 => ?_)
 refine kQ ?_
 refine kES [2] [(2,.v (.int .i64 3))] ?_
 refine kR ?_
 have hmod : tS c = 3 := by first | rfl | (simp [tS, *]; done) | grind [tS]
 exact ⟨[.int .i64 3],by kernel_rfl,fun w' hb hf => by rw [hmod]; exact ⟨rfl,hb⟩⟩
 refine kQ ?_
 refine kES [1,25] [(1,.p 0 0),(25,.v (.bool c.r.done))] ?_
 refine kC (c.r.done) (fun h7 => ?_) (fun h7 => ?_)
 refine kQ ?_
 refine kES [2] [(2,.v (.int .i64 5))] ?_
 refine kR ?_
 have hmod : tS c = 5 := by first | rfl | (simp [tS, *]; done) | grind [tS]
 exact ⟨[.int .i64 5],by kernel_rfl,fun w' hb hf => by rw [hmod]; exact ⟨rfl,hb⟩⟩
 refine kK ?_
 refine kQ ?_
 refine kES [2] [(2,.v (.int .i64 c.state))] ?_
 refine kR ?_
 have hmod : tS c = c.state := by first | rfl | (simp [tS, *]; done) | grind [tS]
 exact ⟨[.int .i64 c.state],by kernel_rfl,fun w' hb hf => by rw [hmod]; exact ⟨rfl,hb⟩⟩
 have h3p := eqF h3
 refine kQ ?_
 refine kES [1,4,29] [(1,.p 0 0),(4,.v (.int .i64 c.state)),(29,.v (.bool (c.state == 3)))] ?_
 refine kC (c.state == 3) (fun h8 => ?_) (fun h8 => ?_)
 have h8p := eqT h8
 refine kQ ?_
 refine kES [1,33] [(1,.p 0 0),(33,.v (.bool c.r.done))] ?_
 refine kC (c.r.done) (fun h9 => ?_) (fun h9 => ?_)
 refine kQ ?_
 refine kES [2] [(2,.v (.int .i64 7))] ?_
 refine kR ?_
 have hmod : tS c = 7 := by first | rfl | (simp [tS, *]; done) | grind [tS]
 exact ⟨[.int .i64 7],by kernel_rfl,fun w' hb hf => by rw [hmod]; exact ⟨rfl,hb⟩⟩
 refine kK ?_
 refine kQ ?_
 refine kES [2] [(2,.v (.int .i64 c.state))] ?_
 refine kR ?_
 have hmod : tS c = c.state := by first | rfl | (simp [tS, *]; done) | grind [tS]
 exact ⟨[.int .i64 c.state],by kernel_rfl,fun w' hb hf => by rw [hmod]; exact ⟨rfl,hb⟩⟩
 have h8p := eqF h8
 refine kQ ?_
 refine kES [1,4,34] [(1,.p 0 0),(4,.v (.int .i64 c.state)),(34,.v (.bool (c.state == 5)))] ?_
 refine kC (c.state == 5) (fun h10 => ?_) (fun h10 => ?_)
 have h10p := eqT h10
 refine kQ ?_
 refine kES [1,38] [(1,.p 0 0),(38,.v (.bool c.s.done))] ?_
 refine kC (c.s.done) (fun h11 => ?_) (fun h11 => ?_)
 refine kQ ?_
 refine kES [2] [(2,.v (.int .i64 7))] ?_
 refine kR ?_
 have hmod : tS c = 7 := by first | rfl | (simp [tS, *]; done) | grind [tS]
 exact ⟨[.int .i64 7],by kernel_rfl,fun w' hb hf => by rw [hmod]; exact ⟨rfl,hb⟩⟩
 refine kK ?_
 refine kQ ?_
 refine kES [2] [(2,.v (.int .i64 c.state))] ?_
 refine kR ?_
 have hmod : tS c = c.state := by first | rfl | (simp [tS, *]; done) | grind [tS]
 exact ⟨[.int .i64 c.state],by kernel_rfl,fun w' hb hf => by rw [hmod]; exact ⟨rfl,hb⟩⟩
 have h10p := eqF h10
 refine kQ ?_
 refine kES [1,39] [(1,.p 0 0),(39,.v (.bool (c.state == 6)))] ?_
 refine kC (c.state == 6) (fun h12 => ?_) (fun h12 => ?_)
 have h12p := eqT h12
 refine kQ ?_
 refine kES [1,43] [(1,.p 0 0),(43,.v (.bool c.s.done))] ?_
 refine kC (c.s.done) (fun h13 => ?_) (fun h13 => ?_)
 refine kQ ?_
 refine kES [2] [(2,.v (.int .i64 8))] ?_
 refine kR ?_
 have hmod : tS c = 8 := by first | rfl | (simp [tS, *]; done) | grind [tS]
 exact ⟨[.int .i64 8],by kernel_rfl,fun w' hb hf => by rw [hmod]; exact ⟨rfl,hb⟩⟩
 refine kK ?_
 refine kQ ?_
 refine kES [2] [(2,.v (.int .i64 c.state))] ?_
 refine kR ?_
 have hmod : tS c = c.state := by first | rfl | (simp [tS, *]; done) | grind [tS]
 exact ⟨[.int .i64 c.state],by kernel_rfl,fun w' hb hf => by rw [hmod]; exact ⟨rfl,hb⟩⟩
 have h12p := eqF h12
 refine kK ?_
 refine kQ ?_
 refine kES [2] [(2,.v (.int .i64 c.state))] ?_
 refine kR ?_
 have hmod : tS c = c.state := by first | rfl | (simp [tS, *]; done) | grind [tS]
 exact ⟨[.int .i64 c.state],by kernel_rfl,fun w' hb hf => by rw [hmod]; exact ⟨rfl,hb⟩⟩
theorem ysTurned_c (c : Con) (rV : Value) (w : World) (hZ : Sl w rV 2 (c.r.held.map pC)) (hkn : c.r.held.length ≤ 1048576)(hm : ∀ p ∈ c.r.held, p.text.size ≤ 1048576) (hsz : c.r.data.size ≤ 4611686018427387904) (B : Nat) (hB : B ≤ w.heap.size) : Calls Tryz.prog 79 #[.agg (conL c rV).toArray] w fun e w' => XRs w w' e (α := Option Addr × Nat) (fun y => .agg (conL (turned c) (.slice y.1 ((turned c).r.held.length) y.2)).toArray) (fun y => [ownF B (.slice y.1 ((turned c).r.held.length) y.2) 2 ((turned c).r.held.map pC)]) := by
 obtain ⟨Z,Y,hY⟩ := hZ.form
 rw [List.length_map] at hY; subst hY
 have hJ := hZ.len; rw [List.length_map] at hJ
 have hqcrh := Sl.capLe hZ
 have ht : conOk { c with state := tS c,timer := 0 } = (conOk { c with state := tS c,timer := 0,tries := 0 } && inB c.tries 0 3) := conOk_tries _
 refine x_callsA (args := [.agg (conL c (.slice Z c.r.held.length Y)).toArray]) (fn := Tryz.f79) [slF (.slice Z c.r.held.length Y) 2 (c.r.held.map pC)] Tryz.func79 rfl Tryz.ntmps79 rfl (by simp only [List.mem_cons,List.not_mem_nil,or_false,forall_eq_or_imp,forall_eq]; exact ⟨rfl,hZ⟩) ?_
 refine kQ ?_
 refine kEF [1,2] ⟨[(1,.p 0 0),(2,.p 1 0)],[⟨44,conL c (.slice Z c.r.held.length Y)⟩,⟨44,conZ⟩],[],[slF (.slice Z c.r.held.length Y) 2 (c.r.held.map pC)]⟩ ?_
 refine kQ ?_
 refine kCS 1 [1,2,4] [(1,.p 0 0),(2,.p 1 0),(4,.v (.agg (conL c (.slice Z c.r.held.length Y)).toArray))] 33 [.agg (conL c (.slice Z c.r.held.length Y)).toArray] (some 5) rfl (xc_r fun ww hw hf => yl19Copy_c c (.slice Z c.r.held.length Y) ww (hf _ m0) (by assumption) w.heap.size hw) ?_
 rintro ⟨v1a,v1c⟩
 refine kEF [1,2,3] ⟨[(1,.p 0 0),(2,.p 1 0),(3,.p 2 0)],[⟨44,conL c (.slice Z c.r.held.length Y)⟩,⟨44,conZ⟩,⟨44,conL c (.slice v1a c.r.held.length v1c)⟩],[],[ownF w.heap.size (.slice v1a c.r.held.length v1c) 2 (c.r.held.map pC),slF (.slice Z c.r.held.length Y) 2 (c.r.held.map pC)]⟩ ?_
 refine kQ ?_
 refine kCS 1 [1,2,3,6] [(1,.p 0 0),(2,.p 1 0),(3,.p 2 0),(6,.v (.agg (conL c (.slice Z c.r.held.length Y)).toArray))] 125 [.agg (conL c (.slice Z c.r.held.length Y)).toArray] (some 7) rfl (xc_b fun ww hf => yl21State_c c (.slice Z c.r.held.length Y) ww (hf _ m1) ) ?_
 intro _
 refine kEF [1,2,3] ⟨[(1,.p 0 0),(2,.p 1 0),(3,.p 2 0)],[⟨44,conL c (.slice Z c.r.held.length Y)⟩,⟨44,conZ⟩,⟨44,conL { c with state := (tS c) } (.slice v1a c.r.held.length v1c)⟩],[],[ownF w.heap.size (.slice v1a c.r.held.length v1c) 2 (c.r.held.map pC),slF (.slice Z c.r.held.length Y) 2 (c.r.held.map pC)]⟩ ?_
 refine kS ?_
 refine kS ?_
 refine xw_join ⟨[(1,.p 0 0),(2,.p 1 0),(3,.p 2 0),(37,.v (.bool ((!(conOk ({ c with state := (tS c),timer := 0,tries := 0 }))) || ((!(inB c.timer 0 4)) || (!(inB c.tries 0 3))))))],[⟨44,conL c (.slice Z c.r.held.length Y)⟩,⟨44,conZ⟩,⟨44,conL { c with state := (tS c) } (.slice v1a c.r.held.length v1c)⟩],[],[ownF w.heap.size (.slice v1a c.r.held.length v1c) 2 (c.r.held.map pC),slF (.slice Z c.r.held.length Y) 2 (c.r.held.map pC)]⟩ ?_ ?_
 refine kG ?_
 refine kOS 14 [1,2,3,10,12,14,16,18,20,22] [(1,.p 0 0),(2,.p 1 0),(3,.p 2 0),(10,.v (.agg (tupL c.t).toArray)),(12,.v (.int .i64 (tS c))),(14,.v (.agg (sndL c.s).toArray)),(16,.v (.agg (rcvL c.r (.slice Z c.r.held.length Y)).toArray)),(18,.v (.int .i64 c.window)),(20,.v (.int .i64 c.most)),(22,.v (.agg (optL c.o).toArray))] (.agg (conL { c with state := (tS c),timer := 0,tries := 0 } (.slice Z c.r.held.length Y)).toArray) rfl (fun _ _ _ ww hr => act_build [(0,.agg (tupL c.t).toArray),(1,.int .i64 (tS c)),(2,.agg (sndL c.s).toArray),(3,.agg (rcvL c.r (.slice Z c.r.held.length Y)).toArray),(4,.int .i64 c.window),(5,.int .i64 c.most),(6,.agg (optL c.o).toArray)] hr.1 rfl (by kernel_rfl) (by kernel_rfl) ww) ?_
 refine kCS 0 [1,2,3,23] [(1,.p 0 0),(2,.p 1 0),(3,.p 2 0),(23,.v (.agg (conL { c with state := (tS c),timer := 0,tries := 0 } (.slice Z c.r.held.length Y)).toArray))] 25 [.agg (conL { c with state := (tS c),timer := 0,tries := 0 } (.slice Z c.r.held.length Y)).toArray] (some 24) rfl (xc_b fun ww hf => ysConnOk_c ({ c with state := (tS c),timer := 0,tries := 0 }) (.slice Z c.r.held.length Y) ww (hf _ m1) (by assumption) (by omega)) ?_
 intro _
 refine kRS 2 [1,2,3,26] [(1,.p 0 0),(2,.p 1 0),(3,.p 2 0),(26,.v (.bool (!(conOk ({ c with state := (tS c),timer := 0,tries := 0 })))))] ?_
 refine kP 26 (!(conOk ({ c with state := (tS c),timer := 0,tries := 0 }))) (fun h2 => ?_) (fun h2 => ?_)
 have h2n := not_t h2
 refine kES [1,2,3,37] [(1,.p 0 0),(2,.p 1 0),(3,.p 2 0),(37,.v (.bool true))] ?_
 show Wk _ _
 try rw [h2]
 exact kF 3 0 [1,2,3,37]
 have h2n := not_f h2
 refine kCS 2 [1,2,3,26,28] [(1,.p 0 0),(2,.p 1 0),(3,.p 2 0),(26,.v (.bool false)),(28,.v (.int .i64 c.timer))] 67 [.int .i64 c.timer,.int .i64 0,.int .i64 4] (some 29) rfl (xc_s fun ww hf => l1In_c c.timer 0 4 ww ) ?_
 intro _
 refine kRS 3 [1,2,3,32] [(1,.p 0 0),(2,.p 1 0),(3,.p 2 0),(32,.v (.bool (!(inB c.timer 0 4))))] ?_
 refine kP 32 (!(inB c.timer 0 4)) (fun h3 => ?_) (fun h3 => ?_)
 have h3n := not_t h3
 have h3ni := inB_ff.1 (show inB c.timer 0 4 = false from by simpa using h3n)
 refine kES [1,2,3,37] [(1,.p 0 0),(2,.p 1 0),(3,.p 2 0),(37,.v (.bool true))] ?_
 show Wk _ _
 try rw [h2]
 try rw [h3]
 exact kF 3 0 [1,2,3,37]
 have h3n := not_f h3
 have h3ni := inB_tt.1 (show inB c.timer 0 4 = true from by simpa using h3n)
 refine kCS 2 [1,2,3,32,34] [(1,.p 0 0),(2,.p 1 0),(3,.p 2 0),(32,.v (.bool false)),(34,.v (.int .i64 c.tries))] 67 [.int .i64 c.tries,.int .i64 0,.int .i64 3] (some 35) rfl (xc_s fun ww hf => l1In_c c.tries 0 3 ww ) ?_
 intro _
 refine kES [1,2,3,37] [(1,.p 0 0),(2,.p 1 0),(3,.p 2 0),(37,.v (.bool (!(inB c.tries 0 3))))] ?_
 show Wk _ _
 try rw [h2]
 try rw [h3]
 exact kF 3 0 [1,2,3,37]
 refine kC ((!(conOk ({ c with state := (tS c),timer := 0,tries := 0 }))) || ((!(inB c.timer 0 4)) || (!(inB c.tries 0 3)))) (fun h4 => ?_) (fun h4 => ?_)
 refine kQ ?_
 refine kCS 1 [2,38] [(2,.p 1 0),(38,.v (.agg (conL c (.slice Z c.r.held.length Y)).toArray))] 33 [.agg (conL c (.slice Z c.r.held.length Y)).toArray] (some 39) rfl (xc_r fun ww hw hf => yl19Copy_c c (.slice Z c.r.held.length Y) ww (hf _ m1) (by assumption) w.heap.size hw) ?_
 rintro ⟨v5a,v5c⟩
 refine kEF [2] ⟨[(2,.p 1 0)],[⟨44,conL c (.slice Z c.r.held.length Y)⟩,⟨44,conL c (.slice v5a c.r.held.length v5c)⟩,⟨44,conL { c with state := (tS c) } (.slice v1a c.r.held.length v1c)⟩],[],[ownF w.heap.size (.slice v5a c.r.held.length v5c) 2 (c.r.held.map pC),ownF w.heap.size (.slice v1a c.r.held.length v1c) 2 (c.r.held.map pC),slF (.slice Z c.r.held.length Y) 2 (c.r.held.map pC)]⟩ ?_
 refine kR ?_
 have hmod : turned c = c := by first | rfl | (simp [turned, *]; done) | grind [turned] | grind [turned,tS] | (unfold turned; rw [← hkk,if_neg hkn]; grind)
 exact ⟨[.agg (conL c (.slice v5a c.r.held.length v5c)).toArray],by kernel_rfl,fun w' hb hf ha => by rw [hmod]; exact xo1 ((v5a,v5c)) rfl rfl (pO (hf _ m0) hB) hb⟩
 have h4l := or_l h4
 have h4ln := not_f h4l
 have h4r := or_r h4
 have h4rl := or_l h4r
 have h4rln := not_f h4rl
 have h4rlni := inB_tt.1 (show inB c.timer 0 4 = true from by simpa using h4rln)
 have h4rr := or_r h4r
 have h4rrn := not_f h4rr
 have h4rrni := inB_tt.1 (show inB c.tries 0 3 = true from by simpa using h4rrn)
 refine kK ?_
 refine kS ?_
 refine kQ ?_
 refine kES [2,3,44] [(2,.p 1 0),(3,.p 2 0),(44,.v (.bool ((tS c) == c.state)))] ?_
 refine kC ((tS c) == c.state) (fun h6 => ?_) (fun h6 => ?_)
 have h6p := eqT h6
 refine kQ ?_
 refine kEF [2] ⟨[(2,.p 1 0)],[⟨44,conL c (.slice Z c.r.held.length Y)⟩,⟨44,conL { c with state := (tS c) } (.slice v1a c.r.held.length v1c)⟩,⟨44,conL { c with state := (tS c) } (.slice v1a c.r.held.length v1c)⟩],[],[ownF w.heap.size (.slice v1a c.r.held.length v1c) 2 (c.r.held.map pC),slF (.slice Z c.r.held.length Y) 2 (c.r.held.map pC)]⟩ ?_
 refine kR ?_
 have hmod : turned c = ({ c with state := (tS c) }) := by first | rfl | (simp [turned, *]; done) | grind [turned] | grind [turned,tS] | (unfold turned; rw [← hkk,if_neg hkn]; grind)
 exact ⟨[.agg (conL { c with state := (tS c) } (.slice v1a c.r.held.length v1c)).toArray],by kernel_rfl,fun w' hb hf ha => by rw [hmod]; exact xo1 ((v1a,v1c)) rfl rfl (pO (hf _ m0) hB) hb⟩
 have h6p := eqF h6
 refine kK ?_
 refine kS ?_
 refine kQ ?_
 refine kES [2,3,48] [(2,.p 1 0),(3,.p 2 0),(48,.v (.bool ((tS c) == 7)))] ?_
 refine xw_join ⟨[(2,.p 1 0),(3,.p 2 0)],[⟨44,conL c (.slice Z c.r.held.length Y)⟩,⟨44,conZ⟩,⟨44,conL { c with state := (tS c),timer := if ((tS c) == 7) = true then 4 else c.timer,tries := if ((tS c) == 7) = true then 0 else c.tries } (.slice v1a c.r.held.length v1c)⟩],[],[ownF w.heap.size (.slice v1a c.r.held.length v1c) 2 (c.r.held.map pC),slF (.slice Z c.r.held.length Y) 2 (c.r.held.map pC)]⟩ ?_ ?_
 refine kC ((tS c) == 7) (fun h7 => ?_) (fun h7 => ?_)
 have h7p := eqT h7
 refine kQ ?_
 refine kEF [2,3] ⟨[(2,.p 1 0),(3,.p 2 0)],[⟨44,conL c (.slice Z c.r.held.length Y)⟩,⟨44,conZ⟩,⟨44,conL { c with state := (tS c),timer := 4 } (.slice v1a c.r.held.length v1c)⟩],[],[ownF w.heap.size (.slice v1a c.r.held.length v1c) 2 (c.r.held.map pC),slF (.slice Z c.r.held.length Y) 2 (c.r.held.map pC)]⟩ ?_
 refine kG ?_
 refine kEF [2,3] ⟨[(2,.p 1 0),(3,.p 2 0)],[⟨44,conL c (.slice Z c.r.held.length Y)⟩,⟨44,conZ⟩,⟨44,conL { c with state := (tS c),timer := 4,tries := 0 } (.slice v1a c.r.held.length v1c)⟩],[],[ownF w.heap.size (.slice v1a c.r.held.length v1c) 2 (c.r.held.map pC),slF (.slice Z c.r.held.length Y) 2 (c.r.held.map pC)]⟩ ?_
 show Wk _ _; rw [h7]; exact kF 3 0 [2,3]
 have h7p := eqF h7
 refine kK ?_
 show Wk _ _; rw [h7]; exact kF 3 0 [2,3]
 refine kS ?_
 refine kQ ?_
 refine kES [2,3,53] [(2,.p 1 0),(3,.p 2 0),(53,.v (.bool ((tS c) == 8)))] ?_
 refine xw_join ⟨[(2,.p 1 0),(3,.p 2 0)],[⟨44,conL c (.slice Z c.r.held.length Y)⟩,⟨44,conZ⟩,⟨44,conL { c with state := (tS c),timer := if ((tS c) == 8) = true then 0 else if ((tS c) == 7) = true then 4 else c.timer,tries := if ((tS c) == 8) = true then 0 else if ((tS c) == 7) = true then 0 else c.tries } (.slice v1a c.r.held.length v1c)⟩],[],[ownF w.heap.size (.slice v1a c.r.held.length v1c) 2 (c.r.held.map pC),slF (.slice Z c.r.held.length Y) 2 (c.r.held.map pC)]⟩ ?_ ?_
 refine kC ((tS c) == 8) (fun h8 => ?_) (fun h8 => ?_)
 have h8p := eqT h8
 refine kQ ?_
 refine kEF [2,3] ⟨[(2,.p 1 0),(3,.p 2 0)],[⟨44,conL c (.slice Z c.r.held.length Y)⟩,⟨44,conZ⟩,⟨44,conL { c with state := (tS c),timer := 0,tries := if ((tS c) == 7) = true then 0 else c.tries } (.slice v1a c.r.held.length v1c)⟩],[],[ownF w.heap.size (.slice v1a c.r.held.length v1c) 2 (c.r.held.map pC),slF (.slice Z c.r.held.length Y) 2 (c.r.held.map pC)]⟩ ?_
 refine kG ?_
 refine kEF [2,3] ⟨[(2,.p 1 0),(3,.p 2 0)],[⟨44,conL c (.slice Z c.r.held.length Y)⟩,⟨44,conZ⟩,⟨44,conL { c with state := (tS c),timer := 0,tries := 0 } (.slice v1a c.r.held.length v1c)⟩],[],[ownF w.heap.size (.slice v1a c.r.held.length v1c) 2 (c.r.held.map pC),slF (.slice Z c.r.held.length Y) 2 (c.r.held.map pC)]⟩ ?_
 show Wk _ _; rw [h8]; exact kF 3 0 [2,3]
 have h8p := eqF h8
 refine kK ?_
 show Wk _ _; rw [h8]; exact kF 3 0 [2,3]
 refine kQ ?_
 refine kEF [2] ⟨[(2,.p 1 0)],[⟨44,conL c (.slice Z c.r.held.length Y)⟩,⟨44,conL { c with state := (tS c),timer := if ((tS c) == 8) = true then 0 else if ((tS c) == 7) = true then 4 else c.timer,tries := if ((tS c) == 8) = true then 0 else if ((tS c) == 7) = true then 0 else c.tries } (.slice v1a c.r.held.length v1c)⟩,⟨44,conL { c with state := (tS c),timer := if ((tS c) == 8) = true then 0 else if ((tS c) == 7) = true then 4 else c.timer,tries := if ((tS c) == 8) = true then 0 else if ((tS c) == 7) = true then 0 else c.tries } (.slice v1a c.r.held.length v1c)⟩],[],[ownF w.heap.size (.slice v1a c.r.held.length v1c) 2 (c.r.held.map pC),slF (.slice Z c.r.held.length Y) 2 (c.r.held.map pC)]⟩ ?_
 refine kR ?_
 have hmod : turned c = ({ c with state := (tS c),timer := if ((tS c) == 8) = true then 0 else if ((tS c) == 7) = true then 4 else c.timer,tries := if ((tS c) == 8) = true then 0 else if ((tS c) == 7) = true then 0 else c.tries }) := by first | rfl | (simp [turned, *]; done) | grind [turned] | grind [turned,tS] | (unfold turned; rw [← hkk,if_neg hkn]; grind)
 exact ⟨[.agg (conL { c with state := (tS c),timer := if ((tS c) == 8) = true then 0 else if ((tS c) == 7) = true then 4 else c.timer,tries := if ((tS c) == 8) = true then 0 else if ((tS c) == 7) = true then 0 else c.tries } (.slice v1a c.r.held.length v1c)).toArray],by kernel_rfl,fun w' hb hf ha => by rw [hmod]; exact xo1 ((v1a,v1c)) rfl rfl (pO (hf _ m0) hB) hb⟩
theorem ysReadConn_c (c : Con) (rV : Value) (n : Int) (w : World) (hZ : Sl w rV 2 (c.r.held.map pC)) (hkn : c.r.held.length ≤ 1048576)(hm : ∀ p ∈ c.r.held, p.text.size ≤ 1048576) (hsz : c.r.data.size ≤ 4611686018427387904) (B : Nat) (hB : B ≤ w.heap.size) : Calls Tryz.prog 154 #[.agg (conL c rV).toArray, .int .i64 n] w fun e w' => XRs w w' e (α := (Option Addr × Nat) × (Option Addr × Nat)) (fun y => .tuple #[.agg (conL (readConn c n).1 (.slice y.1.1 ((readConn c n).1.r.held.length) y.1.2)).toArray, .string ((readConn c n).2.1), .slice y.2.1 ((readConn c n).2.2.length) y.2.2]) (fun y => [ownF B (.slice y.1.1 ((readConn c n).1.r.held.length) y.1.2) 2 ((readConn c n).1.r.held.map pC), ownF B (.slice y.2.1 ((readConn c n).2.2.length) y.2.2) 13 ((readConn c n).2.2.map segCells)]) := by
 obtain ⟨Z,Y,hY⟩ := hZ.form
 rw [List.length_map] at hY; subst hY
 have hJ := hZ.len; rw [List.length_map] at hJ
 have hqcrh := Sl.capLe hZ
 have hwb := windowOf_bd (takenIn c.r n).1
 refine x_callsA (args := [.agg (conL c (.slice Z c.r.held.length Y)).toArray,.int .i64 n]) (fn := Tryz.f154) [slF (.slice Z c.r.held.length Y) 2 (c.r.held.map pC)] Tryz.func154 rfl Tryz.ntmps154 rfl (by simp only [List.mem_cons,List.not_mem_nil,or_false,forall_eq_or_imp,forall_eq]; exact ⟨rfl,hZ⟩) ?_
 refine kQ ?_
 refine kEF [1,2,4] ⟨[(1,.v (.int .i64 n)),(2,.p 0 0),(4,.p 1 0)],[⟨44,conL c (.slice Z c.r.held.length Y)⟩,⟨44,conZ⟩],[],[slF (.slice Z c.r.held.length Y) 2 (c.r.held.map pC)]⟩ ?_
 refine kQ ?_
 refine kCS 1 [1,2,4,11] [(1,.v (.int .i64 n)),(2,.p 0 0),(4,.p 1 0),(11,.v (.agg (conL c (.slice Z c.r.held.length Y)).toArray))] 33 [.agg (conL c (.slice Z c.r.held.length Y)).toArray] (some 12) rfl (xc_r fun ww hw hf => yl19Copy_c c (.slice Z c.r.held.length Y) ww (hf _ m0) (by assumption) w.heap.size hw) ?_
 rintro ⟨v1a,v1c⟩
 refine kEF [1,2,4,7] ⟨[(1,.v (.int .i64 n)),(2,.p 0 0),(4,.p 1 0),(7,.p 2 0)],[⟨44,conL c (.slice Z c.r.held.length Y)⟩,⟨44,conZ⟩,⟨44,conL c (.slice v1a c.r.held.length v1c)⟩],[],[ownF w.heap.size (.slice v1a c.r.held.length v1c) 2 (c.r.held.map pC),slF (.slice Z c.r.held.length Y) 2 (c.r.held.map pC)]⟩ ?_
 refine kQ ?_
 refine kHS 0 [1,2,4,7] [(1,.v (.int .i64 n)),(2,.p 0 0),(4,.p 1 0),(7,.p 2 0)] rfl (hv_build (e := 50) (K := 13) (bytes := 104) [] rfl (by kernel_rfl) (by kernel_rfl) (by kernel_rfl) (by kernel_rfl) (by kernel_rfl) (rs := ([] : List Seg).map segCells) rfl) ?_
 intro g2
 refine kES [1,2,4,7,8] [(1,.v (.int .i64 n)),(2,.p 0 0),(4,.p 1 0),(7,.p 2 0),(8,.v (.slice (some ⟨g2,0,none⟩) 0 0))] ?_
 refine kS ?_
 refine kQ ?_
 refine kCS 1 [1,2,4,7,8,14] [(1,.v (.int .i64 n)),(2,.p 0 0),(4,.p 1 0),(7,.p 2 0),(8,.v (.slice (some ⟨g2,0,none⟩) 0 0)),(14,.v (.agg (conL c (.slice Z c.r.held.length Y)).toArray))] 25 [.agg (conL c (.slice Z c.r.held.length Y)).toArray] (some 15) rfl (xc_b fun ww hf => ysConnOk_c c (.slice Z c.r.held.length Y) ww (hf _ m2) (by assumption) (by omega)) ?_
 intro _
 refine kES [1,2,4,7,8,16] [(1,.v (.int .i64 n)),(2,.p 0 0),(4,.p 1 0),(7,.p 2 0),(8,.v (.slice (some ⟨g2,0,none⟩) 0 0)),(16,.v (.bool (!(conOk c))))] ?_
 refine kC (!(conOk c)) (fun h3 => ?_) (fun h3 => ?_)
 have h3n := not_t h3
 refine kQ ?_
 refine kEF [4,5,6] ⟨[(4,.p 1 0),(5,.v (.string (⟨#[]⟩ : ByteArray))),(6,.v (.slice (some ⟨g2,0,none⟩) 0 0))],[⟨44,conL c (.slice Z c.r.held.length Y)⟩,⟨44,conL c (.slice v1a c.r.held.length v1c)⟩,⟨44,conL c (.slice v1a c.r.held.length v1c)⟩],[],[rowF w.heap.size 50 13 (.slice (some ⟨g2,0,none⟩) 0 0) (([] : List Seg).map segCells),ownF w.heap.size (.slice v1a c.r.held.length v1c) 2 (c.r.held.map pC),slF (.slice Z c.r.held.length Y) 2 (c.r.held.map pC)]⟩ ?_
 refine kR ?_
 have hmod : readConn c n = (c,(⟨#[]⟩ : ByteArray),([] : List Seg)) := by first | rfl | (simp [readConn,ackOf, *]; done) | grind [readConn,ackOf]
 exact ⟨[.agg (conL c (.slice v1a c.r.held.length v1c)).toArray,.string (⟨#[]⟩ : ByteArray),.slice (some ⟨g2,0,none⟩) 0 0],by kernel_rfl,fun w' hb hf ha => by rw [hmod]; exact xo2 ((v1a,v1c),(((some ⟨g2,0,none⟩) : Option Addr),0)) rfl rfl (pO (hf _ m1) hB) (pR (hf _ m0) hB) (Apart.sub2 ha (i := 1) (j := 0) rfl rfl (by decide) rfl (fun b h => h) (fun b h => rowF_blk h)) hb⟩
 have h3n := not_f h3
 refine kK ?_
 refine kQ ?_
 refine kCS 3 [2,4,7,8,21,22] [(2,.p 0 0),(4,.p 1 0),(7,.p 2 0),(8,.v (.slice (some ⟨g2,0,none⟩) 0 0)),(21,.v (.agg (rcvL c.r (.slice Z c.r.held.length Y)).toArray)),(22,.v (.int .i64 n))] 166 [.agg (rcvL c.r (.slice Z c.r.held.length Y)).toArray,.int .i64 n] (some 23) rfl (xc_r fun ww hw hf => ysTakenIn_c c.r (.slice Z c.r.held.length Y) n ww (hf _ m2) (by assumption) (by assumption) (by omega) w.heap.size hw) ?_
 rintro ⟨v4a,v4c⟩
 have htk5 : (takenIn c.r n).1.data.size ≤ _ := takenIn_sz _ _
 refine kEF [2,4,7,8,9,10] ⟨[(2,.p 0 0),(4,.p 1 0),(7,.p 2 0),(8,.v (.slice (some ⟨g2,0,none⟩) 0 0)),(9,.p 3 0),(10,.v (.string ((takenIn c.r n).2)))],[⟨44,conL c (.slice Z c.r.held.length Y)⟩,⟨44,conZ⟩,⟨44,conL c (.slice v1a c.r.held.length v1c)⟩,⟨41,rcvL (takenIn c.r n).1 (.slice v4a ((takenIn c.r n).1.held.length) v4c)⟩],[],[rowF w.heap.size 85 2 (.slice v4a ((takenIn c.r n).1.held.length) v4c) ((takenIn c.r n).1.held.map pC),rowF w.heap.size 50 13 (.slice (some ⟨g2,0,none⟩) 0 0) (([] : List Seg).map segCells),ownF w.heap.size (.slice v1a c.r.held.length v1c) 2 (c.r.held.map pC),slF (.slice Z c.r.held.length Y) 2 (c.r.held.map pC)]⟩ ?_
 refine kQ ?_
 refine kEF [2,4,7,8,9,10] ⟨[(2,.p 0 0),(4,.p 1 0),(7,.p 2 0),(8,.v (.slice (some ⟨g2,0,none⟩) 0 0)),(9,.p 3 0),(10,.v (.string ((takenIn c.r n).2)))],[⟨44,conL c (.slice Z c.r.held.length Y)⟩,⟨44,conZ⟩,⟨44,conL { c with r := (takenIn c.r n).1 } (.slice v4a ((takenIn c.r n).1.held.length) v4c)⟩,⟨41,rcvL (takenIn c.r n).1 (.slice v4a ((takenIn c.r n).1.held.length) v4c)⟩],[],[rowF w.heap.size 85 2 (.slice v4a ((takenIn c.r n).1.held.length) v4c) ((takenIn c.r n).1.held.map pC),rowF w.heap.size 50 13 (.slice (some ⟨g2,0,none⟩) 0 0) (([] : List Seg).map segCells),ownF w.heap.size (.slice v1a c.r.held.length v1c) 2 (c.r.held.map pC),slF (.slice Z c.r.held.length Y) 2 (c.r.held.map pC)]⟩ ?_
 refine kS ?_
 refine kS ?_
 refine xw_join ⟨[(4,.p 1 0),(7,.p 2 0),(8,.v (.slice (some ⟨g2,0,none⟩) 0 0)),(10,.v (.string ((takenIn c.r n).2))),(46,.v (.bool (((wO c.r) == 0) && ((decide ((wO ((takenIn c.r n).1)) > 0)) && ((c.state != 8) && (c.state != 7))))))],[⟨44,conL c (.slice Z c.r.held.length Y)⟩,⟨44,conZ⟩,⟨44,conL { c with r := (takenIn c.r n).1 } (.slice v4a ((takenIn c.r n).1.held.length) v4c)⟩,⟨41,rcvL (takenIn c.r n).1 (.slice v4a ((takenIn c.r n).1.held.length) v4c)⟩],[],[rowF w.heap.size 85 2 (.slice v4a ((takenIn c.r n).1.held.length) v4c) ((takenIn c.r n).1.held.map pC),rowF w.heap.size 50 13 (.slice (some ⟨g2,0,none⟩) 0 0) (([] : List Seg).map segCells),ownF w.heap.size (.slice v1a c.r.held.length v1c) 2 (c.r.held.map pC),slF (.slice Z c.r.held.length Y) 2 (c.r.held.map pC)]⟩ ?_ ?_
 refine kG ?_
 refine kCS 2 [2,4,7,8,9,10,29] [(2,.p 0 0),(4,.p 1 0),(7,.p 2 0),(8,.v (.slice (some ⟨g2,0,none⟩) 0 0)),(9,.p 3 0),(10,.v (.string ((takenIn c.r n).2))),(29,.v (.agg (rcvL c.r (.slice Z c.r.held.length Y)).toArray))] 82 [.agg (rcvL c.r (.slice Z c.r.held.length Y)).toArray] (some 30) rfl (xc_b fun ww hf => sWindowOf_c c.r.next c.r.data c.r.held (.slice Z c.r.held.length Y) c.r.fin c.r.done ww (by omega)) ?_
 intro _
 refine kRS 2 [2,4,7,8,9,10,32] [(2,.p 0 0),(4,.p 1 0),(7,.p 2 0),(8,.v (.slice (some ⟨g2,0,none⟩) 0 0)),(9,.p 3 0),(10,.v (.string ((takenIn c.r n).2))),(32,.v (.bool ((wO c.r) == 0)))] ?_
 refine kP 32 ((wO c.r) == 0) (fun h6 => ?_) (fun h6 => ?_)
 have h6p := eqT h6
 refine kCS 1 [2,4,7,8,10,32,33] [(2,.p 0 0),(4,.p 1 0),(7,.p 2 0),(8,.v (.slice (some ⟨g2,0,none⟩) 0 0)),(10,.v (.string ((takenIn c.r n).2))),(32,.v (.bool true)),(33,.v (.agg (rcvL (takenIn c.r n).1 (.slice v4a ((takenIn c.r n).1.held.length) v4c)).toArray))] 82 [.agg (rcvL (takenIn c.r n).1 (.slice v4a ((takenIn c.r n).1.held.length) v4c)).toArray] (some 34) rfl (xc_b fun ww hf => sWindowOf_c ((takenIn c.r n).1.next) ((takenIn c.r n).1.data) ((takenIn c.r n).1.held) (.slice v4a ((takenIn c.r n).1.held.length) v4c) ((takenIn c.r n).1.fin) ((takenIn c.r n).1.done) ww (by omega)) ?_
 intro _
 refine kRS 3 [2,4,7,8,10,37] [(2,.p 0 0),(4,.p 1 0),(7,.p 2 0),(8,.v (.slice (some ⟨g2,0,none⟩) 0 0)),(10,.v (.string ((takenIn c.r n).2))),(37,.v (.bool (decide ((wO ((takenIn c.r n).1)) > 0))))] ?_
 refine kP 37 (decide ((wO ((takenIn c.r n).1)) > 0)) (fun h7 => ?_) (fun h7 => ?_)
 have h7p := of_decide_eq_true h7
 refine kRS 5 [2,4,7,8,10,42] [(2,.p 0 0),(4,.p 1 0),(7,.p 2 0),(8,.v (.slice (some ⟨g2,0,none⟩) 0 0)),(10,.v (.string ((takenIn c.r n).2))),(42,.v (.bool (c.state != 8)))] ?_
 refine kP 42 (c.state != 8) (fun h8 => ?_) (fun h8 => ?_)
 have h8p := neT h8
 refine kES [4,7,8,10,46] [(4,.p 1 0),(7,.p 2 0),(8,.v (.slice (some ⟨g2,0,none⟩) 0 0)),(10,.v (.string ((takenIn c.r n).2))),(46,.v (.bool (c.state != 7)))] ?_
 show Wk _ _
 try rw [h6]
 try rw [h7]
 try rw [h8]
 exact kF 4 0 [4,7,8,10,46]
 have h8p := neF h8
 refine kES [4,7,8,10,46] [(4,.p 1 0),(7,.p 2 0),(8,.v (.slice (some ⟨g2,0,none⟩) 0 0)),(10,.v (.string ((takenIn c.r n).2))),(46,.v (.bool false))] ?_
 show Wk _ _
 try rw [h6]
 try rw [h7]
 try rw [h8]
 exact kF 4 0 [4,7,8,10,46]
 have h7p := of_decide_eq_false h7
 refine kES [4,7,8,10,46] [(4,.p 1 0),(7,.p 2 0),(8,.v (.slice (some ⟨g2,0,none⟩) 0 0)),(10,.v (.string ((takenIn c.r n).2))),(46,.v (.bool false))] ?_
 show Wk _ _
 try rw [h6]
 try rw [h7]
 exact kF 4 0 [4,7,8,10,46]
 have h6p := eqF h6
 refine kES [4,7,8,10,46] [(4,.p 1 0),(7,.p 2 0),(8,.v (.slice (some ⟨g2,0,none⟩) 0 0)),(10,.v (.string ((takenIn c.r n).2))),(46,.v (.bool false))] ?_
 show Wk _ _
 try rw [h6]
 exact kF 4 0 [4,7,8,10,46]
 refine kC (((wO c.r) == 0) && ((decide ((wO ((takenIn c.r n).1)) > 0)) && ((c.state != 8) && (c.state != 7)))) (fun h9 => ?_) (fun h9 => ?_)
 have h9l := and_l h9
 have h9lp := eqT h9l
 have h9r := and_r h9
 have h9rl := and_l h9r
 have h9rr := and_r h9r
 have h9rrl := and_l h9rr
 have h9rrlp := neT h9rrl
 have h9rrr := and_r h9rr
 have h9rrrp := neT h9rrr
 refine kS ?_
 refine xw_joinE (α := Nat) (fun y => (fun (g11 : Nat) => (⟨[(4,.p 1 0),(5,.v (.string ((takenIn c.r n).2))),(6,.v (.slice (some ⟨g11,0,none⟩) 1 1))],[⟨44,conL c (.slice Z c.r.held.length Y)⟩,⟨44,conL { c with r := (takenIn c.r n).1 } (.slice v4a ((takenIn c.r n).1.held.length) v4c)⟩,⟨44,conL { c with r := (takenIn c.r n).1 } (.slice v4a ((takenIn c.r n).1.held.length) v4c)⟩,⟨41,rcvL (takenIn c.r n).1 (.slice v4a ((takenIn c.r n).1.held.length) v4c)⟩],[],[rowF w.heap.size 50 13 (.slice (some ⟨g11,0,none⟩) 1 1) (([⟨c.t.my,c.t.port,nextOf c.s,(takenIn c.r n).1.next,16,wO ((takenIn c.r n).1),⟨0,(-1),false,false,0,0⟩,(⟨#[]⟩ : ByteArray)⟩] : List Seg).map segCells),rowF w.heap.size 85 2 (.slice v4a ((takenIn c.r n).1.held.length) v4c) ((takenIn c.r n).1.held.map pC),rowF w.heap.size 50 13 (.slice (some ⟨g2,0,none⟩) 0 0) (([] : List Seg).map segCells),ownF w.heap.size (.slice v1a c.r.held.length v1c) 2 (c.r.held.map pC),slF (.slice Z c.r.held.length Y) 2 (c.r.held.map pC)]⟩ : St)) y) ?_ ?_
 refine xe_region0 [true,false,true,true] (by kernel_rfl) (fun ρ σ => ?_)
 refine kTS [0,1,2] [49,48,47,4] 5 [(49,.v (.agg (conL { c with r := (takenIn c.r n).1 } (.slice v4a ((takenIn c.r n).1.held.length) v4c)).toArray)),(48,.v (.string ((takenIn c.r n).2))),(47,.v (.agg (conL { c with r := (takenIn c.r n).1 } (.slice v4a ((takenIn c.r n).1.held.length) v4c)).toArray)),(4,.p 1 0)] ?_
 refine kA [3] ?_
 refine kSC 3 35 [.agg (conL { c with r := (takenIn c.r n).1 } (.slice v4a ((takenIn c.r n).1.held.length) v4c)).toArray] (some 50) rfl (xc_b fun ww hf => sAckOf_c c.t.ip c.t.port c.t.my c.state c.s.una c.s.data c.s.sent c.s.fin c.s.finSent c.s.done ((takenIn c.r n).1.next) ((takenIn c.r n).1.data) ((takenIn c.r n).1.held) (.slice v4a ((takenIn c.r n).1.held.length) v4c) ((takenIn c.r n).1.fin) ((takenIn c.r n).1.done) c.window c.most c.o.mss c.o.scale c.o.sack c.o.stamp c.o.val c.o.echo c.timer c.tries ww (by omega)) ?_
 intro _
 refine kA [4,5] ⟨?_,?_⟩
 refine kSH 4 rfl (under_t (under_f rfl (under_t (under_t under_nil)))) (hv_build (e := 50) (K := 13) (bytes := 104) [.agg #[.int .i64 c.t.my,.int .i64 c.t.port,.int .i64 (nextOf c.s),.int .i64 ((takenIn c.r n).1.next),.int .i64 16,.int .i64 (wO ((takenIn c.r n).1)),.int .i64 0,.int .i64 (-1),.bool false,.bool false,.int .i64 0,.int .i64 0,.string (⟨#[]⟩ : ByteArray)]] rfl (by kernel_rfl) (by kernel_rfl) (by kernel_rfl) (by kernel_rfl) (by kernel_rfl) (rs := ([⟨c.t.my,c.t.port,nextOf c.s,(takenIn c.r n).1.next,16,wO ((takenIn c.r n).1),⟨0,(-1),false,false,0,0⟩,(⟨#[]⟩ : ByteArray)⟩] : List Seg).map segCells) rfl) ?_
 intro g11
 refine kA [5] ?_
 refine kSS 5 1 0 (conL { c with r := (takenIn c.r n).1 } (.slice v4a ((takenIn c.r n).1.held.length) v4c)) rfl ?_
 refine kTS [6,7] [6,5,4] 0 [(6,.v (.slice (some ⟨g11,0,none⟩) 1 1)),(5,.v (.string ((takenIn c.r n).2))),(4,.p 1 0)] ?_
 refine kZ ?_
 exact ⟨(g11),kF 4 0 [4,5,6]⟩
 refine kSS 5 1 0 (conL { c with r := (takenIn c.r n).1 } (.slice v4a ((takenIn c.r n).1.held.length) v4c)) rfl ?_
 refine kTS [6] [5,50,4] 2 [(5,.v (.string ((takenIn c.r n).2))),(50,.v (.agg #[.int .i64 c.t.my,.int .i64 c.t.port,.int .i64 (nextOf c.s),.int .i64 ((takenIn c.r n).1.next),.int .i64 16,.int .i64 (wO ((takenIn c.r n).1)),.int .i64 0,.int .i64 (-1),.bool false,.bool false,.int .i64 0,.int .i64 0,.string (⟨#[]⟩ : ByteArray)])),(4,.p 1 0)] ?_
 refine kA [4] ?_
 refine kSH 4 rfl (under_t (under_f rfl (under_t (under_t under_nil)))) (hv_build (e := 50) (K := 13) (bytes := 104) [.agg #[.int .i64 c.t.my,.int .i64 c.t.port,.int .i64 (nextOf c.s),.int .i64 ((takenIn c.r n).1.next),.int .i64 16,.int .i64 (wO ((takenIn c.r n).1)),.int .i64 0,.int .i64 (-1),.bool false,.bool false,.int .i64 0,.int .i64 0,.string (⟨#[]⟩ : ByteArray)]] rfl (by kernel_rfl) (by kernel_rfl) (by kernel_rfl) (by kernel_rfl) (by kernel_rfl) (rs := ([⟨c.t.my,c.t.port,nextOf c.s,(takenIn c.r n).1.next,16,wO ((takenIn c.r n).1),⟨0,(-1),false,false,0,0⟩,(⟨#[]⟩ : ByteArray)⟩] : List Seg).map segCells) rfl) ?_
 intro g13
 refine kTS [7] [6,5,4] 0 [(6,.v (.slice (some ⟨g13,0,none⟩) 1 1)),(5,.v (.string ((takenIn c.r n).2))),(4,.p 1 0)] ?_
 refine kZ ?_
 exact ⟨(g13),kF 4 0 [4,5,6]⟩
 intro g11
 refine kR ?_
 have hmod : readConn c n = (({ c with r := (takenIn c.r n).1 }),((takenIn c.r n).2),([⟨c.t.my,c.t.port,nextOf c.s,(takenIn c.r n).1.next,16,wO ((takenIn c.r n).1),⟨0,(-1),false,false,0,0⟩,(⟨#[]⟩ : ByteArray)⟩] : List Seg)) := by first | rfl | (simp [readConn,ackOf, *]; done) | grind [readConn,ackOf]
 exact ⟨[.agg (conL { c with r := (takenIn c.r n).1 } (.slice v4a ((takenIn c.r n).1.held.length) v4c)).toArray,.string ((takenIn c.r n).2),.slice (some ⟨g11,0,none⟩) 1 1],by kernel_rfl,fun w' hb hf ha => by rw [hmod]; exact xo2 ((v4a,v4c),(((some ⟨g11,0,none⟩) : Option Addr),1)) rfl rfl (pR (hf _ m1) hB) (pR (hf _ m0) hB) (Apart.sub2 ha (i := 1) (j := 0) rfl rfl (by decide) rfl (fun b h => rowF_blk h) (fun b h => rowF_blk h)) hb⟩
 refine kK ?_
 refine kQ ?_
 refine kEF [4,5,6] ⟨[(4,.p 1 0),(5,.v (.string ((takenIn c.r n).2))),(6,.v (.slice (some ⟨g2,0,none⟩) 0 0))],[⟨44,conL c (.slice Z c.r.held.length Y)⟩,⟨44,conL { c with r := (takenIn c.r n).1 } (.slice v4a ((takenIn c.r n).1.held.length) v4c)⟩,⟨44,conL { c with r := (takenIn c.r n).1 } (.slice v4a ((takenIn c.r n).1.held.length) v4c)⟩,⟨41,rcvL (takenIn c.r n).1 (.slice v4a ((takenIn c.r n).1.held.length) v4c)⟩],[],[rowF w.heap.size 85 2 (.slice v4a ((takenIn c.r n).1.held.length) v4c) ((takenIn c.r n).1.held.map pC),rowF w.heap.size 50 13 (.slice (some ⟨g2,0,none⟩) 0 0) (([] : List Seg).map segCells),ownF w.heap.size (.slice v1a c.r.held.length v1c) 2 (c.r.held.map pC),slF (.slice Z c.r.held.length Y) 2 (c.r.held.map pC)]⟩ ?_
 refine kR ?_
 have hmod : readConn c n = (({ c with r := (takenIn c.r n).1 }),((takenIn c.r n).2),([] : List Seg)) := by first | rfl | (simp [readConn,ackOf, *]; done) | grind [readConn,ackOf]
 exact ⟨[.agg (conL { c with r := (takenIn c.r n).1 } (.slice v4a ((takenIn c.r n).1.held.length) v4c)).toArray,.string ((takenIn c.r n).2),.slice (some ⟨g2,0,none⟩) 0 0],by kernel_rfl,fun w' hb hf ha => by rw [hmod]; exact xo2 ((v4a,v4c),(((some ⟨g2,0,none⟩) : Option Addr),0)) rfl rfl (pR (hf _ m0) hB) (pR (hf _ m1) hB) (Apart.sub2 ha (i := 0) (j := 1) rfl rfl (by decide) rfl (fun b h => rowF_blk h) (fun b h => rowF_blk h)) hb⟩
theorem yiTurned_c (c : Con) (rV : Value) (w : World) (hZ : Sl w rV 2 (c.r.held.map pC)) (hkn : c.r.held.length ≤ 1048576)(hm : ∀ p ∈ c.r.held, p.text.size ≤ 1048576) (hsz : c.r.data.size ≤ 4611686018427387904) (B : Nat) (hB : B ≤ w.heap.size) : Calls Tryz.prog 73 #[.agg (conL c rV).toArray] w fun e w' => XRs w w' e (α := Option Addr × Nat) (fun y => .agg (conL (turned c) (.slice y.1 ((turned c).r.held.length) y.2)).toArray) (fun y => [ownF B (.slice y.1 ((turned c).r.held.length) y.2) 2 ((turned c).r.held.map pC)]) := by
 obtain ⟨Z,Y,hY⟩ := hZ.form
 rw [List.length_map] at hY; subst hY
 have hJ := hZ.len; rw [List.length_map] at hJ
 have hqcrh := Sl.capLe hZ
 have ht : conOk { c with state := tS c,timer := 0 } = (conOk { c with state := tS c,timer := 0,tries := 0 } && inB c.tries 0 3) := conOk_tries _
 refine x_callsA (args := [.agg (conL c (.slice Z c.r.held.length Y)).toArray]) (fn := Tryz.f73) [slF (.slice Z c.r.held.length Y) 2 (c.r.held.map pC)] Tryz.func73 rfl Tryz.ntmps73 rfl (by simp only [List.mem_cons,List.not_mem_nil,or_false,forall_eq_or_imp,forall_eq]; exact ⟨rfl,hZ⟩) ?_
 refine kQ ?_
 refine kEF [1,2] ⟨[(1,.p 0 0),(2,.p 1 0)],[⟨44,conL c (.slice Z c.r.held.length Y)⟩,⟨44,conZ⟩],[],[slF (.slice Z c.r.held.length Y) 2 (c.r.held.map pC)]⟩ ?_
 refine kQ ?_
 refine kCS 1 [1,2,7] [(1,.p 0 0),(2,.p 1 0),(7,.v (.agg (conL c (.slice Z c.r.held.length Y)).toArray))] 43 [.agg (conL c (.slice Z c.r.held.length Y)).toArray] (some 8) rfl (xc_r fun ww hw hf => ycloneConn_c c (.slice Z c.r.held.length Y) ww (hf _ m0) (by assumption) w.heap.size hw) ?_
 rintro ⟨v1a,v1c⟩
 refine kEF [1,2,3] ⟨[(1,.p 0 0),(2,.p 1 0),(3,.p 2 0)],[⟨44,conL c (.slice Z c.r.held.length Y)⟩,⟨44,conZ⟩,⟨44,conL c (.slice v1a c.r.held.length v1c)⟩],[],[ownF w.heap.size (.slice v1a c.r.held.length v1c) 2 (c.r.held.map pC),slF (.slice Z c.r.held.length Y) 2 (c.r.held.map pC)]⟩ ?_
 refine kS ?_
 refine xw_joinF (α := {zz : Int // (fun (kk : Int) => kk = tS c ∧ ¬ kk = c.state) zz}) (fun zz => (fun (kk : Int) => (⟨[(1,.p 0 0),(2,.p 1 0),(3,.p 2 0)],[⟨44,conL c (.slice Z c.r.held.length Y)⟩,⟨44,conZ⟩,⟨44,conL { c with state := kk } (.slice v1a c.r.held.length v1c)⟩],[],[ownF w.heap.size (.slice v1a c.r.held.length v1c) 2 (c.r.held.map pC),slF (.slice Z c.r.held.length Y) 2 (c.r.held.map pC)]⟩ : St)) zz.1) ?_ ?_
 refine kS ?_
 refine xe_region [] (by kernel_rfl) (fun ρ σ => ?_)
 refine kTS [0,1,2,3,4,5,6,7] [5,4,1,2,3] 0 [(5,.v (.bool c.r.done)),(4,.v (.bool c.s.done)),(1,.p 0 0),(2,.p 1 0),(3,.p 2 0)] ?_
 refine kZ ?_
 refine xw_block ?_
 refine kS ?_
 refine xw_join ⟨[(1,.p 0 0),(2,.p 1 0),(3,.p 2 0),(4,.v (.bool c.s.done)),(5,.v (.bool c.r.done)),(16,.v (.bool ((c.state == 1) && c.r.done)))],[⟨44,conL c (.slice Z c.r.held.length Y)⟩,⟨44,conZ⟩,⟨44,conL c (.slice v1a c.r.held.length v1c)⟩],[],[ownF w.heap.size (.slice v1a c.r.held.length v1c) 2 (c.r.held.map pC),slF (.slice Z c.r.held.length Y) 2 (c.r.held.map pC)]⟩ ?_ ?_
 refine kG ?_
 refine kRS 4 [1,2,3,4,5,20] [(1,.p 0 0),(2,.p 1 0),(3,.p 2 0),(4,.v (.bool c.s.done)),(5,.v (.bool c.r.done)),(20,.v (.bool (c.state == 1)))] ?_
 refine kP 20 (c.state == 1) (fun h2 => ?_) (fun h2 => ?_)
 have h2p := eqT h2
 refine kES [1,2,3,4,5,16] [(1,.p 0 0),(2,.p 1 0),(3,.p 2 0),(4,.v (.bool c.s.done)),(5,.v (.bool c.r.done)),(16,.v (.bool c.r.done))] ?_
 show Wk _ _
 try rw [h2]
 exact kF 3 0 [1,2,3,4,5,16]
 have h2p := eqF h2
 refine kES [1,2,3,4,5,16] [(1,.p 0 0),(2,.p 1 0),(3,.p 2 0),(4,.v (.bool c.s.done)),(5,.v (.bool c.r.done)),(16,.v (.bool false))] ?_
 show Wk _ _
 try rw [h2]
 exact kF 3 0 [1,2,3,4,5,16]
 refine kC ((c.state == 1) && c.r.done) (fun h3 => ?_) (fun h3 => ?_)
 have h3l := and_l h3
 have h3lp := eqT h3l
 have h3r := and_r h3
 refine kG ?_
 refine kEF [1,2,3] ⟨[(1,.p 0 0),(2,.p 1 0),(3,.p 2 0)],[⟨44,conL c (.slice Z c.r.held.length Y)⟩,⟨44,conZ⟩,⟨44,conL { c with state := 4 } (.slice v1a c.r.held.length v1c)⟩],[],[ownF w.heap.size (.slice v1a c.r.held.length v1c) 2 (c.r.held.map pC),slF (.slice Z c.r.held.length Y) 2 (c.r.held.map pC)]⟩ ?_
 exact ⟨⟨(4),⟨(by first | (unfold tS; simp [*]; done) | (unfold tS; grind)),(by first | omega | grind)⟩⟩,kF 3 0 [1,2,3]⟩
 refine kS ?_
 refine xw_join ⟨[(1,.p 0 0),(2,.p 1 0),(3,.p 2 0),(4,.v (.bool c.s.done)),(5,.v (.bool c.r.done)),(24,.v (.bool ((c.state == 2) && (c.s.done && c.r.done))))],[⟨44,conL c (.slice Z c.r.held.length Y)⟩,⟨44,conZ⟩,⟨44,conL c (.slice v1a c.r.held.length v1c)⟩],[],[ownF w.heap.size (.slice v1a c.r.held.length v1c) 2 (c.r.held.map pC),slF (.slice Z c.r.held.length Y) 2 (c.r.held.map pC)]⟩ ?_ ?_
 refine kG ?_
 refine kRS 4 [1,2,3,4,5,28] [(1,.p 0 0),(2,.p 1 0),(3,.p 2 0),(4,.v (.bool c.s.done)),(5,.v (.bool c.r.done)),(28,.v (.bool (c.state == 2)))] ?_
 refine kP 28 (c.state == 2) (fun h4 => ?_) (fun h4 => ?_)
 have h4p := eqT h4
 refine kRS 3 [1,2,3,4,5,31] [(1,.p 0 0),(2,.p 1 0),(3,.p 2 0),(4,.v (.bool c.s.done)),(5,.v (.bool c.r.done)),(31,.v (.bool c.s.done))] ?_
 refine kP 31 (c.s.done) (fun h5 => ?_) (fun h5 => ?_)
 refine kES [1,2,3,4,5,24] [(1,.p 0 0),(2,.p 1 0),(3,.p 2 0),(4,.v (.bool c.s.done)),(5,.v (.bool c.r.done)),(24,.v (.bool c.r.done))] ?_
 show Wk _ _
 try rw [h4]
 try rw [h5]
 exact kF 3 0 [1,2,3,4,5,24]
 refine kES [1,2,3,4,5,24] [(1,.p 0 0),(2,.p 1 0),(3,.p 2 0),(4,.v (.bool c.s.done)),(5,.v (.bool c.r.done)),(24,.v (.bool false))] ?_
 show Wk _ _
 try rw [h4]
 try rw [h5]
 exact kF 3 0 [1,2,3,4,5,24]
 have h4p := eqF h4
 refine kES [1,2,3,4,5,24] [(1,.p 0 0),(2,.p 1 0),(3,.p 2 0),(4,.v (.bool c.s.done)),(5,.v (.bool c.r.done)),(24,.v (.bool false))] ?_
 show Wk _ _
 try rw [h4]
 exact kF 3 0 [1,2,3,4,5,24]
 refine kC ((c.state == 2) && (c.s.done && c.r.done)) (fun h6 => ?_) (fun h6 => ?_)
 have h6l := and_l h6
 have h6lp := eqT h6l
 have h6r := and_r h6
 have h6rl := and_l h6r
 have h6rr := and_r h6r
 refine kG ?_
 refine kEF [1,2,3] ⟨[(1,.p 0 0),(2,.p 1 0),(3,.p 2 0)],[⟨44,conL c (.slice Z c.r.held.length Y)⟩,⟨44,conZ⟩,⟨44,conL { c with state := 7 } (.slice v1a c.r.held.length v1c)⟩],[],[ownF w.heap.size (.slice v1a c.r.held.length v1c) 2 (c.r.held.map pC),slF (.slice Z c.r.held.length Y) 2 (c.r.held.map pC)]⟩ ?_
 exact ⟨⟨(7),⟨(by first | (unfold tS; simp [*]; done) | (unfold tS; grind)),(by first | omega | grind)⟩⟩,kF 3 0 [1,2,3]⟩
 refine kS ?_
 refine xw_join ⟨[(1,.p 0 0),(2,.p 1 0),(3,.p 2 0),(4,.v (.bool c.s.done)),(5,.v (.bool c.r.done)),(35,.v (.bool ((c.state == 2) && c.s.done)))],[⟨44,conL c (.slice Z c.r.held.length Y)⟩,⟨44,conZ⟩,⟨44,conL c (.slice v1a c.r.held.length v1c)⟩],[],[ownF w.heap.size (.slice v1a c.r.held.length v1c) 2 (c.r.held.map pC),slF (.slice Z c.r.held.length Y) 2 (c.r.held.map pC)]⟩ ?_ ?_
 refine kG ?_
 refine kRS 4 [1,2,3,4,5,39] [(1,.p 0 0),(2,.p 1 0),(3,.p 2 0),(4,.v (.bool c.s.done)),(5,.v (.bool c.r.done)),(39,.v (.bool (c.state == 2)))] ?_
 refine kP 39 (c.state == 2) (fun h7 => ?_) (fun h7 => ?_)
 have h7p := eqT h7
 refine kES [1,2,3,4,5,35] [(1,.p 0 0),(2,.p 1 0),(3,.p 2 0),(4,.v (.bool c.s.done)),(5,.v (.bool c.r.done)),(35,.v (.bool c.s.done))] ?_
 show Wk _ _
 try rw [h7]
 exact kF 3 0 [1,2,3,4,5,35]
 have h7p := eqF h7
 refine kES [1,2,3,4,5,35] [(1,.p 0 0),(2,.p 1 0),(3,.p 2 0),(4,.v (.bool c.s.done)),(5,.v (.bool c.r.done)),(35,.v (.bool false))] ?_
 show Wk _ _
 try rw [h7]
 exact kF 3 0 [1,2,3,4,5,35]
 refine kC ((c.state == 2) && c.s.done) (fun h8 => ?_) (fun h8 => ?_)
 have h8l := and_l h8
 have h8lp := eqT h8l
 have h8r := and_r h8
 refine kG ?_
 refine kEF [1,2,3] ⟨[(1,.p 0 0),(2,.p 1 0),(3,.p 2 0)],[⟨44,conL c (.slice Z c.r.held.length Y)⟩,⟨44,conZ⟩,⟨44,conL { c with state := 3 } (.slice v1a c.r.held.length v1c)⟩],[],[ownF w.heap.size (.slice v1a c.r.held.length v1c) 2 (c.r.held.map pC),slF (.slice Z c.r.held.length Y) 2 (c.r.held.map pC)]⟩ ?_
 exact ⟨⟨(3),⟨(by first | (unfold tS; simp [*]; done) | (unfold tS; grind)),(by first | omega | grind)⟩⟩,kF 3 0 [1,2,3]⟩
 refine kS ?_
 refine xw_join ⟨[(1,.p 0 0),(2,.p 1 0),(3,.p 2 0),(4,.v (.bool c.s.done)),(5,.v (.bool c.r.done)),(43,.v (.bool ((c.state == 2) && c.r.done)))],[⟨44,conL c (.slice Z c.r.held.length Y)⟩,⟨44,conZ⟩,⟨44,conL c (.slice v1a c.r.held.length v1c)⟩],[],[ownF w.heap.size (.slice v1a c.r.held.length v1c) 2 (c.r.held.map pC),slF (.slice Z c.r.held.length Y) 2 (c.r.held.map pC)]⟩ ?_ ?_
 refine kG ?_
 refine kRS 4 [1,2,3,4,5,47] [(1,.p 0 0),(2,.p 1 0),(3,.p 2 0),(4,.v (.bool c.s.done)),(5,.v (.bool c.r.done)),(47,.v (.bool (c.state == 2)))] ?_
 refine kP 47 (c.state == 2) (fun h9 => ?_) (fun h9 => ?_)
 have h9p := eqT h9
 refine kES [1,2,3,4,5,43] [(1,.p 0 0),(2,.p 1 0),(3,.p 2 0),(4,.v (.bool c.s.done)),(5,.v (.bool c.r.done)),(43,.v (.bool c.r.done))] ?_
 show Wk _ _
 try rw [h9]
 exact kF 3 0 [1,2,3,4,5,43]
 have h9p := eqF h9
 refine kES [1,2,3,4,5,43] [(1,.p 0 0),(2,.p 1 0),(3,.p 2 0),(4,.v (.bool c.s.done)),(5,.v (.bool c.r.done)),(43,.v (.bool false))] ?_
 show Wk _ _
 try rw [h9]
 exact kF 3 0 [1,2,3,4,5,43]
 refine kC ((c.state == 2) && c.r.done) (fun h10 => ?_) (fun h10 => ?_)
 have h10l := and_l h10
 have h10lp := eqT h10l
 have h10r := and_r h10
 refine kG ?_
 refine kEF [1,2,3] ⟨[(1,.p 0 0),(2,.p 1 0),(3,.p 2 0)],[⟨44,conL c (.slice Z c.r.held.length Y)⟩,⟨44,conZ⟩,⟨44,conL { c with state := 5 } (.slice v1a c.r.held.length v1c)⟩],[],[ownF w.heap.size (.slice v1a c.r.held.length v1c) 2 (c.r.held.map pC),slF (.slice Z c.r.held.length Y) 2 (c.r.held.map pC)]⟩ ?_
 exact ⟨⟨(5),⟨(by first | (unfold tS; simp [*]; done) | (unfold tS; grind)),(by first | omega | grind)⟩⟩,kF 3 0 [1,2,3]⟩
 refine kS ?_
 refine xw_join ⟨[(1,.p 0 0),(2,.p 1 0),(3,.p 2 0),(4,.v (.bool c.s.done)),(51,.v (.bool ((c.state == 3) && c.r.done)))],[⟨44,conL c (.slice Z c.r.held.length Y)⟩,⟨44,conZ⟩,⟨44,conL c (.slice v1a c.r.held.length v1c)⟩],[],[ownF w.heap.size (.slice v1a c.r.held.length v1c) 2 (c.r.held.map pC),slF (.slice Z c.r.held.length Y) 2 (c.r.held.map pC)]⟩ ?_ ?_
 refine kG ?_
 refine kRS 4 [1,2,3,4,5,55] [(1,.p 0 0),(2,.p 1 0),(3,.p 2 0),(4,.v (.bool c.s.done)),(5,.v (.bool c.r.done)),(55,.v (.bool (c.state == 3)))] ?_
 refine kP 55 (c.state == 3) (fun h11 => ?_) (fun h11 => ?_)
 have h11p := eqT h11
 refine kES [1,2,3,4,51] [(1,.p 0 0),(2,.p 1 0),(3,.p 2 0),(4,.v (.bool c.s.done)),(51,.v (.bool c.r.done))] ?_
 show Wk _ _
 try rw [h11]
 exact kF 3 0 [1,2,3,4,51]
 have h11p := eqF h11
 refine kES [1,2,3,4,51] [(1,.p 0 0),(2,.p 1 0),(3,.p 2 0),(4,.v (.bool c.s.done)),(51,.v (.bool false))] ?_
 show Wk _ _
 try rw [h11]
 exact kF 3 0 [1,2,3,4,51]
 refine kC ((c.state == 3) && c.r.done) (fun h12 => ?_) (fun h12 => ?_)
 have h12l := and_l h12
 have h12lp := eqT h12l
 have h12r := and_r h12
 refine kG ?_
 refine kEF [1,2,3] ⟨[(1,.p 0 0),(2,.p 1 0),(3,.p 2 0)],[⟨44,conL c (.slice Z c.r.held.length Y)⟩,⟨44,conZ⟩,⟨44,conL { c with state := 7 } (.slice v1a c.r.held.length v1c)⟩],[],[ownF w.heap.size (.slice v1a c.r.held.length v1c) 2 (c.r.held.map pC),slF (.slice Z c.r.held.length Y) 2 (c.r.held.map pC)]⟩ ?_
 exact ⟨⟨(7),⟨(by first | (unfold tS; simp [*]; done) | (unfold tS; grind)),(by first | omega | grind)⟩⟩,kF 3 0 [1,2,3]⟩
 refine kS ?_
 refine xw_join ⟨[(1,.p 0 0),(2,.p 1 0),(3,.p 2 0),(4,.v (.bool c.s.done)),(59,.v (.bool ((c.state == 5) && c.s.done)))],[⟨44,conL c (.slice Z c.r.held.length Y)⟩,⟨44,conZ⟩,⟨44,conL c (.slice v1a c.r.held.length v1c)⟩],[],[ownF w.heap.size (.slice v1a c.r.held.length v1c) 2 (c.r.held.map pC),slF (.slice Z c.r.held.length Y) 2 (c.r.held.map pC)]⟩ ?_ ?_
 refine kG ?_
 refine kRS 4 [1,2,3,4,63] [(1,.p 0 0),(2,.p 1 0),(3,.p 2 0),(4,.v (.bool c.s.done)),(63,.v (.bool (c.state == 5)))] ?_
 refine kP 63 (c.state == 5) (fun h13 => ?_) (fun h13 => ?_)
 have h13p := eqT h13
 refine kES [1,2,3,4,59] [(1,.p 0 0),(2,.p 1 0),(3,.p 2 0),(4,.v (.bool c.s.done)),(59,.v (.bool c.s.done))] ?_
 show Wk _ _
 try rw [h13]
 exact kF 3 0 [1,2,3,4,59]
 have h13p := eqF h13
 refine kES [1,2,3,4,59] [(1,.p 0 0),(2,.p 1 0),(3,.p 2 0),(4,.v (.bool c.s.done)),(59,.v (.bool false))] ?_
 show Wk _ _
 try rw [h13]
 exact kF 3 0 [1,2,3,4,59]
 refine kC ((c.state == 5) && c.s.done) (fun h14 => ?_) (fun h14 => ?_)
 have h14l := and_l h14
 have h14lp := eqT h14l
 have h14r := and_r h14
 refine kG ?_
 refine kEF [1,2,3] ⟨[(1,.p 0 0),(2,.p 1 0),(3,.p 2 0)],[⟨44,conL c (.slice Z c.r.held.length Y)⟩,⟨44,conZ⟩,⟨44,conL { c with state := 7 } (.slice v1a c.r.held.length v1c)⟩],[],[ownF w.heap.size (.slice v1a c.r.held.length v1c) 2 (c.r.held.map pC),slF (.slice Z c.r.held.length Y) 2 (c.r.held.map pC)]⟩ ?_
 exact ⟨⟨(7),⟨(by first | (unfold tS; simp [*]; done) | (unfold tS; grind)),(by first | omega | grind)⟩⟩,kF 3 0 [1,2,3]⟩
 refine kS ?_
 refine xw_join ⟨[(1,.p 0 0),(2,.p 1 0),(3,.p 2 0),(67,.v (.bool ((c.state == 6) && c.s.done)))],[⟨44,conL c (.slice Z c.r.held.length Y)⟩,⟨44,conZ⟩,⟨44,conL c (.slice v1a c.r.held.length v1c)⟩],[],[ownF w.heap.size (.slice v1a c.r.held.length v1c) 2 (c.r.held.map pC),slF (.slice Z c.r.held.length Y) 2 (c.r.held.map pC)]⟩ ?_ ?_
 refine kG ?_
 refine kRS 4 [1,2,3,4,71] [(1,.p 0 0),(2,.p 1 0),(3,.p 2 0),(4,.v (.bool c.s.done)),(71,.v (.bool (c.state == 6)))] ?_
 refine kP 71 (c.state == 6) (fun h15 => ?_) (fun h15 => ?_)
 have h15p := eqT h15
 refine kES [1,2,3,67] [(1,.p 0 0),(2,.p 1 0),(3,.p 2 0),(67,.v (.bool c.s.done))] ?_
 show Wk _ _
 try rw [h15]
 exact kF 3 0 [1,2,3,67]
 have h15p := eqF h15
 refine kES [1,2,3,67] [(1,.p 0 0),(2,.p 1 0),(3,.p 2 0),(67,.v (.bool false))] ?_
 show Wk _ _
 try rw [h15]
 exact kF 3 0 [1,2,3,67]
 refine kC ((c.state == 6) && c.s.done) (fun h16 => ?_) (fun h16 => ?_)
 have h16l := and_l h16
 have h16lp := eqT h16l
 have h16r := and_r h16
 refine kG ?_
 refine kEF [1,2,3] ⟨[(1,.p 0 0),(2,.p 1 0),(3,.p 2 0)],[⟨44,conL c (.slice Z c.r.held.length Y)⟩,⟨44,conZ⟩,⟨44,conL { c with state := 8 } (.slice v1a c.r.held.length v1c)⟩],[],[ownF w.heap.size (.slice v1a c.r.held.length v1c) 2 (c.r.held.map pC),slF (.slice Z c.r.held.length Y) 2 (c.r.held.map pC)]⟩ ?_
 exact ⟨⟨(8),⟨(by first | (unfold tS; simp [*]; done) | (unfold tS; grind)),(by first | omega | grind)⟩⟩,kF 3 0 [1,2,3]⟩
 refine kQ ?_
 refine kEF [2] ⟨[(2,.p 1 0)],[⟨44,conL c (.slice Z c.r.held.length Y)⟩,⟨44,conL c (.slice v1a c.r.held.length v1c)⟩,⟨44,conL c (.slice v1a c.r.held.length v1c)⟩],[],[ownF w.heap.size (.slice v1a c.r.held.length v1c) 2 (c.r.held.map pC),slF (.slice Z c.r.held.length Y) 2 (c.r.held.map pC)]⟩ ?_
 refine kR ?_
 have hmod : turned c = c := by first | rfl | (simp [turned, *]; done) | grind [turned] | grind [turned,tS] | (unfold turned; rw [← hkk,if_neg hkn]; grind)
 exact ⟨[.agg (conL c (.slice v1a c.r.held.length v1c)).toArray],by kernel_rfl,fun w' hb hf ha => by rw [hmod]; exact xo1 ((v1a,v1c)) rfl rfl (pO (hf _ m0) hB) hb⟩
 rintro ⟨kk,hkk,hkn⟩
 try dsimp only
 try dsimp only at hkk hkn
 refine kQ ?_
 refine kEF [1,2,3,6] ⟨[(1,.p 0 0),(2,.p 1 0),(3,.p 2 0),(6,.p 3 0)],[⟨44,conL c (.slice Z c.r.held.length Y)⟩,⟨44,conZ⟩,⟨44,conL { c with state := kk } (.slice v1a c.r.held.length v1c)⟩,⟨44,conL { c with state := kk } (.slice v1a c.r.held.length v1c)⟩],[],[ownF w.heap.size (.slice v1a c.r.held.length v1c) 2 (c.r.held.map pC),slF (.slice Z c.r.held.length Y) 2 (c.r.held.map pC)]⟩ ?_
 refine kQ ?_
 refine kEF [1,2,3,6] ⟨[(1,.p 0 0),(2,.p 1 0),(3,.p 2 0),(6,.p 3 0)],[⟨44,conL c (.slice Z c.r.held.length Y)⟩,⟨44,conZ⟩,⟨44,conL { c with state := kk } (.slice v1a c.r.held.length v1c)⟩,⟨44,conL { c with state := kk,timer := 0 } (.slice v1a c.r.held.length v1c)⟩],[],[ownF w.heap.size (.slice v1a c.r.held.length v1c) 2 (c.r.held.map pC),slF (.slice Z c.r.held.length Y) 2 (c.r.held.map pC)]⟩ ?_
 refine kS ?_
 refine kS ?_
 refine xw_join ⟨[(1,.p 0 0),(2,.p 1 0),(3,.p 2 0),(85,.v (.bool ((!(conOk ({ c with state := kk,timer := 0 }))) || (!(inB c.timer 0 4)))))],[⟨44,conL c (.slice Z c.r.held.length Y)⟩,⟨44,conZ⟩,⟨44,conL { c with state := kk } (.slice v1a c.r.held.length v1c)⟩,⟨44,conL { c with state := kk,timer := 0 } (.slice v1a c.r.held.length v1c)⟩],[],[ownF w.heap.size (.slice v1a c.r.held.length v1c) 2 (c.r.held.map pC),slF (.slice Z c.r.held.length Y) 2 (c.r.held.map pC)]⟩ ?_ ?_
 refine kG ?_
 refine kCS 1 [1,2,3,77] [(1,.p 0 0),(2,.p 1 0),(3,.p 2 0),(77,.v (.agg (conL { c with state := kk,timer := 0 } (.slice v1a c.r.held.length v1c)).toArray))] 24 [.agg (conL { c with state := kk,timer := 0 } (.slice v1a c.r.held.length v1c)).toArray] (some 78) rfl (xc_b fun ww hf => yiConnOk_c ({ c with state := kk,timer := 0 }) (.slice v1a c.r.held.length v1c) ww (Own.sl (hf _ m0)) (by assumption) (by omega)) ?_
 intro _
 refine kRS 2 [1,2,3,80] [(1,.p 0 0),(2,.p 1 0),(3,.p 2 0),(80,.v (.bool (!(conOk ({ c with state := kk,timer := 0 })))))] ?_
 refine kP 80 (!(conOk ({ c with state := kk,timer := 0 }))) (fun h17 => ?_) (fun h17 => ?_)
 have h17n := not_t h17
 refine kES [1,2,3,85] [(1,.p 0 0),(2,.p 1 0),(3,.p 2 0),(85,.v (.bool true))] ?_
 show Wk _ _
 try rw [h17]
 exact kF 4 0 [1,2,3,85]
 have h17n := not_f h17
 refine kCS 2 [1,2,3,80,82] [(1,.p 0 0),(2,.p 1 0),(3,.p 2 0),(80,.v (.bool false)),(82,.v (.int .i64 c.timer))] 62 [.int .i64 c.timer,.int .i64 0,.int .i64 4] (some 83) rfl (xc_s fun ww hf => within_c c.timer 0 4 ww ) ?_
 intro _
 refine kES [1,2,3,85] [(1,.p 0 0),(2,.p 1 0),(3,.p 2 0),(85,.v (.bool (!(inB c.timer 0 4))))] ?_
 show Wk _ _
 try rw [h17]
 exact kF 4 0 [1,2,3,85]
 refine kC ((!(conOk ({ c with state := kk,timer := 0 }))) || (!(inB c.timer 0 4))) (fun h18 => ?_) (fun h18 => ?_)
 refine kQ ?_
 refine kCS 1 [2,86] [(2,.p 1 0),(86,.v (.agg (conL c (.slice Z c.r.held.length Y)).toArray))] 43 [.agg (conL c (.slice Z c.r.held.length Y)).toArray] (some 87) rfl (xc_r fun ww hw hf => ycloneConn_c c (.slice Z c.r.held.length Y) ww (hf _ m1) (by assumption) w.heap.size hw) ?_
 rintro ⟨v19a,v19c⟩
 refine kEF [2] ⟨[(2,.p 1 0)],[⟨44,conL c (.slice Z c.r.held.length Y)⟩,⟨44,conL c (.slice v19a c.r.held.length v19c)⟩,⟨44,conL { c with state := kk } (.slice v1a c.r.held.length v1c)⟩,⟨44,conL { c with state := kk,timer := 0 } (.slice v1a c.r.held.length v1c)⟩],[],[ownF w.heap.size (.slice v19a c.r.held.length v19c) 2 (c.r.held.map pC),ownF w.heap.size (.slice v1a c.r.held.length v1c) 2 (c.r.held.map pC),slF (.slice Z c.r.held.length Y) 2 (c.r.held.map pC)]⟩ ?_
 refine kR ?_
 have hmod : turned c = c := by first | rfl | (simp [turned, *]; done) | grind [turned] | grind [turned,tS] | (unfold turned; rw [← hkk,if_neg hkn]; grind)
 exact ⟨[.agg (conL c (.slice v19a c.r.held.length v19c)).toArray],by kernel_rfl,fun w' hb hf ha => by rw [hmod]; exact xo1 ((v19a,v19c)) rfl rfl (pO (hf _ m0) hB) hb⟩
 have h18l := or_l h18
 have h18ln := not_f h18l
 have h18r := or_r h18
 have h18rn := not_f h18r
 have h18rni := inB_tt.1 (show inB c.timer 0 4 = true from by simpa using h18rn)
 refine kK ?_
 refine kS ?_
 refine kQ ?_
 refine kES [2,3,89] [(2,.p 1 0),(3,.p 2 0),(89,.v (.int .i64 kk))] ?_
 refine xw_block ?_
 refine kQ ?_
 refine kES [2,3,89,90] [(2,.p 1 0),(3,.p 2 0),(89,.v (.int .i64 kk)),(90,.v (.bool (kk == 7)))] ?_
 refine xw_join ⟨[(2,.p 1 0),(3,.p 2 0)],[⟨44,conL c (.slice Z c.r.held.length Y)⟩,⟨44,conZ⟩,⟨44,conL { c with state := kk,timer := if (kk == 7) = true then 4 else if (kk == 8) = true then 0 else c.timer,tries := if (kk == 7) = true then 0 else if (kk == 8) = true then 0 else c.tries } (.slice v1a c.r.held.length v1c)⟩,⟨44,conL { c with state := kk,timer := 0 } (.slice v1a c.r.held.length v1c)⟩],[],[ownF w.heap.size (.slice v1a c.r.held.length v1c) 2 (c.r.held.map pC),slF (.slice Z c.r.held.length Y) 2 (c.r.held.map pC)]⟩ ?_ ?_
 refine kC (kk == 7) (fun h20 => ?_) (fun h20 => ?_)
 have h20p := eqT h20
 refine kG ?_
 refine kEF [2,3] ⟨[(2,.p 1 0),(3,.p 2 0)],[⟨44,conL c (.slice Z c.r.held.length Y)⟩,⟨44,conZ⟩,⟨44,conL { c with state := kk,timer := 4,tries := 0 } (.slice v1a c.r.held.length v1c)⟩,⟨44,conL { c with state := kk,timer := 0 } (.slice v1a c.r.held.length v1c)⟩],[],[ownF w.heap.size (.slice v1a c.r.held.length v1c) 2 (c.r.held.map pC),slF (.slice Z c.r.held.length Y) 2 (c.r.held.map pC)]⟩ ?_
 show Wk _ _; rw [h20]; exact kF 4 0 [2,3]
 have h20p := eqF h20
 refine kQ ?_
 refine kES [2,3,94] [(2,.p 1 0),(3,.p 2 0),(94,.v (.bool (kk == 8)))] ?_
 refine xw_join ⟨[(2,.p 1 0),(3,.p 2 0)],[⟨44,conL c (.slice Z c.r.held.length Y)⟩,⟨44,conZ⟩,⟨44,conL { c with state := kk,timer := if (kk == 8) = true then 0 else c.timer,tries := if (kk == 8) = true then 0 else c.tries } (.slice v1a c.r.held.length v1c)⟩,⟨44,conL { c with state := kk,timer := 0 } (.slice v1a c.r.held.length v1c)⟩],[],[ownF w.heap.size (.slice v1a c.r.held.length v1c) 2 (c.r.held.map pC),slF (.slice Z c.r.held.length Y) 2 (c.r.held.map pC)]⟩ ?_ ?_
 refine kC (kk == 8) (fun h21 => ?_) (fun h21 => ?_)
 have h21p := eqT h21
 refine kG ?_
 refine kEF [2,3] ⟨[(2,.p 1 0),(3,.p 2 0)],[⟨44,conL c (.slice Z c.r.held.length Y)⟩,⟨44,conZ⟩,⟨44,conL { c with state := kk,timer := 0,tries := 0 } (.slice v1a c.r.held.length v1c)⟩,⟨44,conL { c with state := kk,timer := 0 } (.slice v1a c.r.held.length v1c)⟩],[],[ownF w.heap.size (.slice v1a c.r.held.length v1c) 2 (c.r.held.map pC),slF (.slice Z c.r.held.length Y) 2 (c.r.held.map pC)]⟩ ?_
 show Wk _ _; rw [h21]; exact kF 4 0 [2,3]
 have h21p := eqF h21
 refine kK ?_
 show Wk _ _; rw [h21]; exact kF 4 0 [2,3]
 show Wk _ _; rw [h20]; exact kF 4 0 [2,3]
 refine kQ ?_
 refine kEF [2] ⟨[(2,.p 1 0)],[⟨44,conL c (.slice Z c.r.held.length Y)⟩,⟨44,conL { c with state := kk,timer := if (kk == 7) = true then 4 else if (kk == 8) = true then 0 else c.timer,tries := if (kk == 7) = true then 0 else if (kk == 8) = true then 0 else c.tries } (.slice v1a c.r.held.length v1c)⟩,⟨44,conL { c with state := kk,timer := if (kk == 7) = true then 4 else if (kk == 8) = true then 0 else c.timer,tries := if (kk == 7) = true then 0 else if (kk == 8) = true then 0 else c.tries } (.slice v1a c.r.held.length v1c)⟩,⟨44,conL { c with state := kk,timer := 0 } (.slice v1a c.r.held.length v1c)⟩],[],[ownF w.heap.size (.slice v1a c.r.held.length v1c) 2 (c.r.held.map pC),slF (.slice Z c.r.held.length Y) 2 (c.r.held.map pC)]⟩ ?_
 refine kR ?_
 have hmod : turned c = ({ c with state := kk,timer := if (kk == 7) = true then 4 else if (kk == 8) = true then 0 else c.timer,tries := if (kk == 7) = true then 0 else if (kk == 8) = true then 0 else c.tries }) := by first | rfl | (simp [turned, *]; done) | grind [turned] | grind [turned,tS] | (unfold turned; rw [← hkk,if_neg hkn]; grind)
 exact ⟨[.agg (conL { c with state := kk,timer := if (kk == 7) = true then 4 else if (kk == 8) = true then 0 else c.timer,tries := if (kk == 7) = true then 0 else if (kk == 8) = true then 0 else c.tries } (.slice v1a c.r.held.length v1c)).toArray],by kernel_rfl,fun w' hb hf ha => by rw [hmod]; exact xo1 ((v1a,v1c)) rfl rfl (pO (hf _ m0) hB) hb⟩
theorem ysNextChunk_c (s : Snd) (window : Int) (mss : Int) (w : World) (hwi : -9223372036854775808 ≤ window ∧ window ≤ 9223372036854775807) : Calls Tryz.prog 89 #[.agg (sndL s).toArray, .int .i64 window, .int .i64 mss] w fun e w' => e = .returned (.tuple #[.agg (chkL (nC s window mss).1).toArray, .bool ((nC s window mss).2)]) ∧ Below w.heap.size w w' := by
 refine x_calls (args := [.agg (sndL s).toArray,.int .i64 window,.int .i64 mss]) (fn := Tryz.f89) [] Tryz.func89 rfl Tryz.ntmps89 rfl (by simp) ?_
 refine kQ ?_
 refine kEF [1,2,3,6] ⟨[(1,.v (.int .i64 window)),(2,.v (.int .i64 mss)),(3,.p 0 0),(6,.p 1 0)],[⟨38,sndL s⟩,⟨107,chkL (⟨0,(⟨#[]⟩ : ByteArray),false⟩ : Chk)⟩],[],[]⟩ ?_
 refine kS ?_
 refine kQ ?_
 refine kCD 1 [1,2,3,6,11] [(11,.v (.agg (sndL s).toArray))] 64 [.agg (sndL s).toArray] (some 12) rfl (xc_b fun ww hf => sSenderOk_c s.una s.data s.sent s.fin s.finSent s.done ww ) ?_
 intro _
 refine kED [1,2,3,6,13] [(13,.v (.bool (!(senderOk s))))] ?_
 refine kC (!(senderOk s)) (fun h1 => ?_) (fun h1 => ?_)
 have hsn := not_t h1
 refine kQ ?_
 refine kOS 0 [6] [(6,.p 1 0)] (.agg (chkL (⟨0,(⟨#[]⟩ : ByteArray),false⟩ : Chk)).toArray) rfl (fun _ _ _ ww hr => act_build [] hr.1 rfl (by kernel_rfl) (by kernel_rfl) ww) ?_
 refine kED [6,7] [(7,.v (.bool false))] ?_
 refine kR ?_
 have hmod : nC s window mss = ((⟨0,(⟨#[]⟩ : ByteArray),false⟩),false) := by first | rfl | (simp [nC,zeroChk,chunkFin, *]; done) | (simp [nC,zeroChk,chunkFin, *]; omega) | grind [nC,zeroChk,chunkFin]
 exact ⟨[.agg (chkL (⟨0,(⟨#[]⟩ : ByteArray),false⟩ : Chk)).toArray,.bool false],by kernel_rfl,fun w' hb hf => by rw [hmod]; exact ⟨rfl,hb⟩⟩
 have h1b := senderOk_bd (s := s) (by simpa using h1)
 obtain ⟨h1b0,h1b1,h1b2,h1b3,h1b4,h1b5,h1b6,h1b7,h1b8,h1b9,h1b10⟩ := h1b
 have hsn := not_f h1
 obtain ⟨c0,c1,c2,c3,c4⟩ := chunkN_bd (window := window) (mss := mss) hsn
 refine kK ?_
 refine kS ?_
 refine xe_region [] (by kernel_rfl) (fun ρ σ => ?_)
 refine kTS [0,3] [18,15,2,3,6] 6 [(18,.v (.agg (sndL s).toArray)),(15,.v (.int .i64 window)),(2,.v (.int .i64 mss)),(3,.p 0 0),(6,.p 1 0)] ?_
 refine kA [1] ?_
 refine kSC 1 75 [.int .i64 window,.int .i64 1000000] (some 16) rfl (xc_s fun ww hf => l1Min_c window 1000000 ww ) ?_
 intro _
 refine kA [2] ?_
 refine kSC 2 76 [.int .i64 0,.int .i64 (min window 1000000)] (some 17) rfl (xc_s fun ww hf => l1Max_c 0 (min window 1000000) ww ) ?_
 intro _
 refine kA [4] ?_
 refine kSC 4 77 [.agg (sndL s).toArray] (some 19) rfl (xc_b fun ww hf => sFlown_c s.una s.data s.sent s.fin s.finSent s.done ww ) ?_
 intro _
 refine kTS [5] [20,2,3,6] 2 [(20,.v (.int .i64 (IntKind.i64.wrap ((max 0 (min window 1000000)) - (flown s))))),(2,.v (.int .i64 mss)),(3,.p 0 0),(6,.p 1 0)] ?_
 refine xe_eqS (t := [(20,.v (.int .i64 (IntKind.i64.wrap ((max 0 (min window 1000000)) - (flown s))))),(2,.v (.int .i64 mss)),(3,.p 0 0),(6,.p 1 0)]) (t' := [(20,.v (.int .i64 ((max 0 (min window 1000000)) - (flown s)))),(2,.v (.int .i64 mss)),(3,.p 0 0),(6,.p 1 0)]) (by rw [show (IntKind.i64.wrap ((max 0 (min window 1000000)) - (flown s))) = ((max 0 (min window 1000000)) - (flown s)) from wrap_id (by omega) (by omega)]) ?_
 refine kA [6] ?_
 refine kSC 6 76 [.int .i64 0,.int .i64 ((max 0 (min window 1000000)) - (flown s))] (some 21) rfl (xc_s fun ww hf => l1Max_c 0 ((max 0 (min window 1000000)) - (flown s)) ww ) ?_
 intro _
 refine xe_eqS (t := [(21,.v (.int .i64 (max 0 ((max 0 (min window 1000000)) - (flown s))))),(20,.v (.int .i64 ((max 0 (min window 1000000)) - (flown s)))),(2,.v (.int .i64 mss)),(3,.p 0 0),(6,.p 1 0)]) (t' := [(21,.v (.int .i64 (wnd s window))),(20,.v (.int .i64 ((max 0 (min window 1000000)) - (flown s)))),(2,.v (.int .i64 mss)),(3,.p 0 0),(6,.p 1 0)]) (by rw [show (max 0 ((max 0 (min window 1000000)) - (flown s))) = (wnd s window) from wnd_s]) ?_
 refine kTS [7] [8,2,3,6] 0 [(8,.v (.int .i64 (wnd s window))),(2,.v (.int .i64 mss)),(3,.p 0 0),(6,.p 1 0)] ?_
 refine kZ ?_
 refine kS ?_
 refine xe_region [] (by kernel_rfl) (fun ρ σ => ?_)
 refine kTS [0,1,3,4,5,6,7,8] [30,23,22,8,3,6] 4 [(30,.v (.int .i64 (IntKind.i64.wrap ((s.data.size : Int) - s.sent)))),(23,.v (.int .i64 (wnd s window))),(22,.v (.int .i64 mss)),(8,.v (.int .i64 (wnd s window))),(3,.p 0 0),(6,.p 1 0)] ?_
 refine xe_eqS (t := [(30,.v (.int .i64 (IntKind.i64.wrap ((s.data.size : Int) - s.sent)))),(23,.v (.int .i64 (wnd s window))),(22,.v (.int .i64 mss)),(8,.v (.int .i64 (wnd s window))),(3,.p 0 0),(6,.p 1 0)]) (t' := [(30,.v (.int .i64 ((s.data.size : Int) - s.sent))),(23,.v (.int .i64 (wnd s window))),(22,.v (.int .i64 mss)),(8,.v (.int .i64 (wnd s window))),(3,.p 0 0),(6,.p 1 0)]) (by rw [show (IntKind.i64.wrap ((s.data.size : Int) - s.sent)) = ((s.data.size : Int) - s.sent) from wrap_id (by omega) (by omega)]) ?_
 refine kA [2] ?_
 refine kSC 2 75 [.int .i64 mss,.int .i64 (wnd s window)] (some 24) rfl (xc_s fun ww hf => l1Min_c mss (wnd s window) ww ) ?_
 intro _
 refine kA [9] ?_
 refine kSC 9 75 [.int .i64 (min mss (wnd s window)),.int .i64 ((s.data.size : Int) - s.sent)] (some 31) rfl (xc_s fun ww hf => l1Min_c (min mss (wnd s window)) ((s.data.size : Int) - s.sent) ww ) ?_
 intro _
 refine kA [10] ?_
 refine kSC 10 76 [.int .i64 0,.int .i64 (min (min mss (wnd s window)) ((s.data.size : Int) - s.sent))] (some 32) rfl (xc_s fun ww hf => l1Max_c 0 (min (min mss (wnd s window)) ((s.data.size : Int) - s.sent)) ww ) ?_
 intro _
 refine xe_eqS (t := [(32,.v (.int .i64 (max 0 (min (min mss (wnd s window)) ((s.data.size : Int) - s.sent))))),(31,.v (.int .i64 (min (min mss (wnd s window)) ((s.data.size : Int) - s.sent)))),(24,.v (.int .i64 (min mss (wnd s window)))),(30,.v (.int .i64 ((s.data.size : Int) - s.sent))),(23,.v (.int .i64 (wnd s window))),(22,.v (.int .i64 mss)),(8,.v (.int .i64 (wnd s window))),(3,.p 0 0),(6,.p 1 0)]) (t' := [(32,.v (.int .i64 (chunkN s window mss))),(31,.v (.int .i64 (min (min mss (wnd s window)) ((s.data.size : Int) - s.sent)))),(24,.v (.int .i64 (min mss (wnd s window)))),(30,.v (.int .i64 ((s.data.size : Int) - s.sent))),(23,.v (.int .i64 (wnd s window))),(22,.v (.int .i64 mss)),(8,.v (.int .i64 (wnd s window))),(3,.p 0 0),(6,.p 1 0)]) (by rw [show (max 0 (min (min mss (wnd s window)) ((s.data.size : Int) - s.sent))) = (chunkN s window mss) from rfl]) ?_
 refine kTS [11] [9,8,3,6] 0 [(9,.v (.int .i64 (chunkN s window mss))),(8,.v (.int .i64 (wnd s window))),(3,.p 0 0),(6,.p 1 0)] ?_
 refine kZ ?_
 refine kS ?_
 refine xw_join ⟨[(3,.p 0 0),(6,.p 1 0),(8,.v (.int .i64 (wnd s window))),(9,.v (.int .i64 (chunkN s window mss))),(10,.p 2 0)],[⟨38,sndL s⟩,⟨107,chkL (⟨0,(⟨#[]⟩ : ByteArray),false⟩ : Chk)⟩,⟨107,chkL (⟨nextOf s,s.data.extract (s.sent).toNat (s.sent + (chunkN s window mss)).toNat,false⟩ : Chk)⟩],[],[]⟩ ?_ ?_
 refine xe_region [] (by kernel_rfl) (fun ρ σ => ?_)
 refine kTS [0,2,3,4,5,6,7,8,9] [42,38,36,33,9,8,3,6] 5 [(42,.v (.int .i64 (IntKind.i64.wrap (s.sent + (chunkN s window mss))))),(38,.v (.int .i64 s.sent)),(36,.v (.string s.data)),(33,.v (.agg (sndL s).toArray)),(9,.v (.int .i64 (chunkN s window mss))),(8,.v (.int .i64 (wnd s window))),(3,.p 0 0),(6,.p 1 0)] ?_
 refine xe_eqS (t := [(42,.v (.int .i64 (IntKind.i64.wrap (s.sent + (chunkN s window mss))))),(38,.v (.int .i64 s.sent)),(36,.v (.string s.data)),(33,.v (.agg (sndL s).toArray)),(9,.v (.int .i64 (chunkN s window mss))),(8,.v (.int .i64 (wnd s window))),(3,.p 0 0),(6,.p 1 0)]) (t' := [(42,.v (.int .i64 (s.sent + (chunkN s window mss)))),(38,.v (.int .i64 s.sent)),(36,.v (.string s.data)),(33,.v (.agg (sndL s).toArray)),(9,.v (.int .i64 (chunkN s window mss))),(8,.v (.int .i64 (wnd s window))),(3,.p 0 0),(6,.p 1 0)]) (by rw [show (IntKind.i64.wrap (s.sent + (chunkN s window mss))) = (s.sent + (chunkN s window mss)) from wrap_id (by omega) (by omega)]) ?_
 refine kX 10 (.string (s.data.extract (s.sent).toNat (s.sent + (chunkN s window mss)).toNat)) rfl (fun _ _ ww hA => act_slS (s.sent) (s.sent + (chunkN s window mss)) hA rfl (by kernel_rfl) rfl rfl rfl (by omega) (by omega) (by omega) ww) ?_
 refine kA [1,12] ⟨?_,?_⟩
 refine kSC 1 87 [.agg (sndL s).toArray] (some 34) rfl (xc_b fun ww hf => sNextOf_c s.una s.data s.sent s.fin s.finSent s.done ww ) ?_
 intro _
 refine kX 11 (.agg (chkL (⟨nextOf s,s.data.extract (s.sent).toNat (s.sent + (chunkN s window mss)).toNat,false⟩ : Chk)).toArray) rfl (fun _ _ ww hA => act_build [(0,.int .i64 (nextOf s)),(1,.string (s.data.extract (s.sent).toNat (s.sent + (chunkN s window mss)).toNat))] hA rfl (by kernel_rfl) (by kernel_rfl) ww) ?_
 refine kA [12] ?_
 refine xs_box 12 ⟨107,chkL (⟨0,(⟨#[]⟩ : ByteArray),false⟩ : Chk)⟩ _ rfl (by kernel_rfl) (by kernel_rfl) (by kernel_rfl) (by kernel_rfl) rfl ?_
 refine kA [13] ?_
 refine kSS 13 2 0 (chkL (⟨nextOf s,s.data.extract (s.sent).toNat (s.sent + (chunkN s window mss)).toNat,false⟩ : Chk)) rfl ?_
 refine kZ ?_
 exact kF 3 0 [3,6,8,9,10]
 refine xs_box 12 ⟨107,chkL (⟨0,(⟨#[]⟩ : ByteArray),false⟩ : Chk)⟩ _ rfl (by kernel_rfl) (by kernel_rfl) (by kernel_rfl) (by kernel_rfl) rfl ?_
 refine kA [1] ?_
 refine kSC 1 87 [.agg (sndL s).toArray] (some 34) rfl (xc_b fun ww hf => sNextOf_c s.una s.data s.sent s.fin s.finSent s.done ww ) ?_
 intro _
 refine kX 11 (.agg (chkL (⟨nextOf s,s.data.extract (s.sent).toNat (s.sent + (chunkN s window mss)).toNat,false⟩ : Chk)).toArray) rfl (fun _ _ ww hA => act_build [(0,.int .i64 (nextOf s)),(1,.string (s.data.extract (s.sent).toNat (s.sent + (chunkN s window mss)).toNat))] hA rfl (by kernel_rfl) (by kernel_rfl) ww) ?_
 refine kA [13] ?_
 refine kSS 13 2 0 (chkL (⟨nextOf s,s.data.extract (s.sent).toNat (s.sent + (chunkN s window mss)).toNat,false⟩ : Chk)) rfl ?_
 refine kZ ?_
 exact kF 3 0 [3,6,8,9,10]
 refine kQ ?_
 refine kRD 3 [3,6,8,9,10,47] [(47,.v (.bool s.fin))] ?_
 refine kP 47 (s.fin) (fun h2 => ?_) (fun h2 => ?_)
 refine kRD 5 [3,6,8,9,10,52] [(52,.v (.bool (!s.finSent)))] ?_
 refine kP 52 (!s.finSent) (fun h3 => ?_) (fun h3 => ?_)
 have h3n := not_t h3
 refine kRD 5 [3,6,8,9,10,57] [(57,.v (.bool (!s.done)))] ?_
 refine kP 57 (!s.done) (fun h4 => ?_) (fun h4 => ?_)
 have h4n := not_t h4
 refine kRS 10 [6,8,9,10,67] [(6,.p 1 0),(8,.v (.int .i64 (wnd s window))),(9,.v (.int .i64 (chunkN s window mss))),(10,.p 2 0),(67,.v (.bool ((IntKind.i64.wrap (s.sent + (chunkN s window mss))) == (s.data.size : Int))))] ?_
 refine xl_eqS (t' := [(6,.p 1 0),(8,.v (.int .i64 (wnd s window))),(9,.v (.int .i64 (chunkN s window mss))),(10,.p 2 0),(67,.v (.bool ((s.sent + (chunkN s window mss)) == (s.data.size : Int))))]) (by rw [show (IntKind.i64.wrap (s.sent + (chunkN s window mss))) = (s.sent + (chunkN s window mss)) from wrap_id (by omega) (by omega)]) ?_
 refine kP 67 ((s.sent + (chunkN s window mss)) == (s.data.size : Int)) (fun h5 => ?_) (fun h5 => ?_)
 have h5p := eqT h5
 refine kEU [6,9,10] [] 2 ⟨107,chkL (⟨nextOf s,s.data.extract (s.sent).toNat (s.sent + (chunkN s window mss)).toNat,decide ((wnd s window) > (chunkN s window mss))⟩ : Chk)⟩ ?_
 refine kS ?_
 refine kQ ?_
 refine kRD 3 [6,10,75] [(75,.v (.bool ((chunkN s window mss) == 0)))] ?_
 refine kP 75 ((chunkN s window mss) == 0) (fun h6 => ?_) (fun h6 => ?_)
 have h6p := eqT h6
 refine kED [6,10,79] [(79,.v (.bool (!(decide ((wnd s window) > (chunkN s window mss))))))] ?_
 refine kC (!(decide ((wnd s window) > (chunkN s window mss)))) (fun h7 => ?_) (fun h7 => ?_)
 have h7n := not_t h7
 refine kQ ?_
 refine kOS 0 [6] [(6,.p 1 0)] (.agg (chkL (⟨0,(⟨#[]⟩ : ByteArray),false⟩ : Chk)).toArray) rfl (fun _ _ _ ww hr => act_build [] hr.1 rfl (by kernel_rfl) (by kernel_rfl) ww) ?_
 refine kED [6,7] [(7,.v (.bool false))] ?_
 refine kR ?_
 have hmod : nC s window mss = ((⟨0,(⟨#[]⟩ : ByteArray),false⟩),false) := by first | rfl | (simp [nC,zeroChk,chunkFin, *]; done) | (simp [nC,zeroChk,chunkFin, *]; omega) | grind [nC,zeroChk,chunkFin]
 exact ⟨[.agg (chkL (⟨0,(⟨#[]⟩ : ByteArray),false⟩ : Chk)).toArray,.bool false],by kernel_rfl,fun w' hb hf => by rw [hmod]; exact ⟨rfl,hb⟩⟩
 have h7n := not_f h7
 refine kK ?_
 refine kQ ?_
 refine kEU [6,7] [(7,.v (.bool true))] 1 ⟨107,chkL (⟨nextOf s,s.data.extract (s.sent).toNat (s.sent + (chunkN s window mss)).toNat,decide ((wnd s window) > (chunkN s window mss))⟩ : Chk)⟩ ?_
 refine kR ?_
 have hmod : nC s window mss = ((⟨nextOf s,s.data.extract (s.sent).toNat (s.sent + (chunkN s window mss)).toNat,decide ((wnd s window) > (chunkN s window mss))⟩),true) := by first | rfl | (simp [nC,zeroChk,chunkFin, *]; done) | (simp [nC,zeroChk,chunkFin, *]; omega) | grind [nC,zeroChk,chunkFin]
 exact ⟨[.agg (chkL (⟨nextOf s,s.data.extract (s.sent).toNat (s.sent + (chunkN s window mss)).toNat,decide ((wnd s window) > (chunkN s window mss))⟩ : Chk)).toArray,.bool true],by kernel_rfl,fun w' hb hf => by rw [hmod]; exact ⟨rfl,hb⟩⟩
 have h6p := eqF h6
 refine kED [6,10,79] [(79,.v (.bool false))] ?_
 refine kN ?_
 refine kK ?_
 refine kQ ?_
 refine kEU [6,7] [(7,.v (.bool true))] 1 ⟨107,chkL (⟨nextOf s,s.data.extract (s.sent).toNat (s.sent + (chunkN s window mss)).toNat,decide ((wnd s window) > (chunkN s window mss))⟩ : Chk)⟩ ?_
 refine kR ?_
 have hmod : nC s window mss = ((⟨nextOf s,s.data.extract (s.sent).toNat (s.sent + (chunkN s window mss)).toNat,decide ((wnd s window) > (chunkN s window mss))⟩),true) := by first | rfl | (simp [nC,zeroChk,chunkFin, *]; done) | (simp [nC,zeroChk,chunkFin, *]; omega) | grind [nC,zeroChk,chunkFin]
 exact ⟨[.agg (chkL (⟨nextOf s,s.data.extract (s.sent).toNat (s.sent + (chunkN s window mss)).toNat,decide ((wnd s window) > (chunkN s window mss))⟩ : Chk)).toArray,.bool true],by kernel_rfl,fun w' hb hf => by rw [hmod]; exact ⟨rfl,hb⟩⟩
 have h5p := eqF h5
 refine kED [6,9,10] [] ?_
 refine kS ?_
 refine kQ ?_
 refine kRD 3 [6,10,75] [(75,.v (.bool ((chunkN s window mss) == 0)))] ?_
 refine kP 75 ((chunkN s window mss) == 0) (fun h8 => ?_) (fun h8 => ?_)
 have h8p := eqT h8
 refine kED [6,10,79] [(79,.v (.bool true))] ?_
 refine kT ?_
 refine kQ ?_
 refine kOS 0 [6] [(6,.p 1 0)] (.agg (chkL (⟨0,(⟨#[]⟩ : ByteArray),false⟩ : Chk)).toArray) rfl (fun _ _ _ ww hr => act_build [] hr.1 rfl (by kernel_rfl) (by kernel_rfl) ww) ?_
 refine kED [6,7] [(7,.v (.bool false))] ?_
 refine kR ?_
 have hmod : nC s window mss = ((⟨0,(⟨#[]⟩ : ByteArray),false⟩),false) := by first | rfl | (simp [nC,zeroChk,chunkFin, *]; done) | (simp [nC,zeroChk,chunkFin, *]; omega) | grind [nC,zeroChk,chunkFin]
 exact ⟨[.agg (chkL (⟨0,(⟨#[]⟩ : ByteArray),false⟩ : Chk)).toArray,.bool false],by kernel_rfl,fun w' hb hf => by rw [hmod]; exact ⟨rfl,hb⟩⟩
 have h8p := eqF h8
 refine kED [6,10,79] [(79,.v (.bool false))] ?_
 refine kN ?_
 refine kK ?_
 refine kQ ?_
 refine kEU [6,7] [(7,.v (.bool true))] 1 ⟨107,chkL (⟨nextOf s,s.data.extract (s.sent).toNat (s.sent + (chunkN s window mss)).toNat,false⟩ : Chk)⟩ ?_
 refine kR ?_
 have hmod : nC s window mss = ((⟨nextOf s,s.data.extract (s.sent).toNat (s.sent + (chunkN s window mss)).toNat,false⟩),true) := by first | rfl | (simp [nC,zeroChk,chunkFin, *]; done) | (simp [nC,zeroChk,chunkFin, *]; omega) | grind [nC,zeroChk,chunkFin]
 exact ⟨[.agg (chkL (⟨nextOf s,s.data.extract (s.sent).toNat (s.sent + (chunkN s window mss)).toNat,false⟩ : Chk)).toArray,.bool true],by kernel_rfl,fun w' hb hf => by rw [hmod]; exact ⟨rfl,hb⟩⟩
 have h4n := not_f h4
 refine kED [6,9,10] [] ?_
 refine kS ?_
 refine kQ ?_
 refine kRD 3 [6,10,75] [(75,.v (.bool ((chunkN s window mss) == 0)))] ?_
 refine kP 75 ((chunkN s window mss) == 0) (fun h9 => ?_) (fun h9 => ?_)
 have h9p := eqT h9
 refine kED [6,10,79] [(79,.v (.bool true))] ?_
 refine kT ?_
 refine kQ ?_
 refine kOS 0 [6] [(6,.p 1 0)] (.agg (chkL (⟨0,(⟨#[]⟩ : ByteArray),false⟩ : Chk)).toArray) rfl (fun _ _ _ ww hr => act_build [] hr.1 rfl (by kernel_rfl) (by kernel_rfl) ww) ?_
 refine kED [6,7] [(7,.v (.bool false))] ?_
 refine kR ?_
 have hmod : nC s window mss = ((⟨0,(⟨#[]⟩ : ByteArray),false⟩),false) := by first | rfl | (simp [nC,zeroChk,chunkFin, *]; done) | (simp [nC,zeroChk,chunkFin, *]; omega) | grind [nC,zeroChk,chunkFin]
 exact ⟨[.agg (chkL (⟨0,(⟨#[]⟩ : ByteArray),false⟩ : Chk)).toArray,.bool false],by kernel_rfl,fun w' hb hf => by rw [hmod]; exact ⟨rfl,hb⟩⟩
 have h9p := eqF h9
 refine kED [6,10,79] [(79,.v (.bool false))] ?_
 refine kN ?_
 refine kK ?_
 refine kQ ?_
 refine kEU [6,7] [(7,.v (.bool true))] 1 ⟨107,chkL (⟨nextOf s,s.data.extract (s.sent).toNat (s.sent + (chunkN s window mss)).toNat,false⟩ : Chk)⟩ ?_
 refine kR ?_
 have hmod : nC s window mss = ((⟨nextOf s,s.data.extract (s.sent).toNat (s.sent + (chunkN s window mss)).toNat,false⟩),true) := by first | rfl | (simp [nC,zeroChk,chunkFin, *]; done) | (simp [nC,zeroChk,chunkFin, *]; omega) | grind [nC,zeroChk,chunkFin]
 exact ⟨[.agg (chkL (⟨nextOf s,s.data.extract (s.sent).toNat (s.sent + (chunkN s window mss)).toNat,false⟩ : Chk)).toArray,.bool true],by kernel_rfl,fun w' hb hf => by rw [hmod]; exact ⟨rfl,hb⟩⟩
 have h3n := not_f h3
 refine kED [6,9,10] [] ?_
 refine kS ?_
 refine kQ ?_
 refine kRD 3 [6,10,75] [(75,.v (.bool ((chunkN s window mss) == 0)))] ?_
 refine kP 75 ((chunkN s window mss) == 0) (fun h10 => ?_) (fun h10 => ?_)
 have h10p := eqT h10
 refine kED [6,10,79] [(79,.v (.bool true))] ?_
 refine kT ?_
 refine kQ ?_
 refine kOS 0 [6] [(6,.p 1 0)] (.agg (chkL (⟨0,(⟨#[]⟩ : ByteArray),false⟩ : Chk)).toArray) rfl (fun _ _ _ ww hr => act_build [] hr.1 rfl (by kernel_rfl) (by kernel_rfl) ww) ?_
 refine kED [6,7] [(7,.v (.bool false))] ?_
 refine kR ?_
 have hmod : nC s window mss = ((⟨0,(⟨#[]⟩ : ByteArray),false⟩),false) := by first | rfl | (simp [nC,zeroChk,chunkFin, *]; done) | (simp [nC,zeroChk,chunkFin, *]; omega) | grind [nC,zeroChk,chunkFin]
 exact ⟨[.agg (chkL (⟨0,(⟨#[]⟩ : ByteArray),false⟩ : Chk)).toArray,.bool false],by kernel_rfl,fun w' hb hf => by rw [hmod]; exact ⟨rfl,hb⟩⟩
 have h10p := eqF h10
 refine kED [6,10,79] [(79,.v (.bool false))] ?_
 refine kN ?_
 refine kK ?_
 refine kQ ?_
 refine kEU [6,7] [(7,.v (.bool true))] 1 ⟨107,chkL (⟨nextOf s,s.data.extract (s.sent).toNat (s.sent + (chunkN s window mss)).toNat,false⟩ : Chk)⟩ ?_
 refine kR ?_
 have hmod : nC s window mss = ((⟨nextOf s,s.data.extract (s.sent).toNat (s.sent + (chunkN s window mss)).toNat,false⟩),true) := by first | rfl | (simp [nC,zeroChk,chunkFin, *]; done) | (simp [nC,zeroChk,chunkFin, *]; omega) | grind [nC,zeroChk,chunkFin]
 exact ⟨[.agg (chkL (⟨nextOf s,s.data.extract (s.sent).toNat (s.sent + (chunkN s window mss)).toNat,false⟩ : Chk)).toArray,.bool true],by kernel_rfl,fun w' hb hf => by rw [hmod]; exact ⟨rfl,hb⟩⟩
 refine kED [6,9,10] [] ?_
 refine kS ?_
 refine kQ ?_
 refine kRD 3 [6,10,75] [(75,.v (.bool ((chunkN s window mss) == 0)))] ?_
 refine kP 75 ((chunkN s window mss) == 0) (fun h11 => ?_) (fun h11 => ?_)
 have h11p := eqT h11
 refine kED [6,10,79] [(79,.v (.bool true))] ?_
 refine kT ?_
 refine kQ ?_
 refine kOS 0 [6] [(6,.p 1 0)] (.agg (chkL (⟨0,(⟨#[]⟩ : ByteArray),false⟩ : Chk)).toArray) rfl (fun _ _ _ ww hr => act_build [] hr.1 rfl (by kernel_rfl) (by kernel_rfl) ww) ?_
 refine kED [6,7] [(7,.v (.bool false))] ?_
 refine kR ?_
 have hmod : nC s window mss = ((⟨0,(⟨#[]⟩ : ByteArray),false⟩),false) := by first | rfl | (simp [nC,zeroChk,chunkFin, *]; done) | (simp [nC,zeroChk,chunkFin, *]; omega) | grind [nC,zeroChk,chunkFin]
 exact ⟨[.agg (chkL (⟨0,(⟨#[]⟩ : ByteArray),false⟩ : Chk)).toArray,.bool false],by kernel_rfl,fun w' hb hf => by rw [hmod]; exact ⟨rfl,hb⟩⟩
 have h11p := eqF h11
 refine kED [6,10,79] [(79,.v (.bool false))] ?_
 refine kN ?_
 refine kK ?_
 refine kQ ?_
 refine kEU [6,7] [(7,.v (.bool true))] 1 ⟨107,chkL (⟨nextOf s,s.data.extract (s.sent).toNat (s.sent + (chunkN s window mss)).toNat,false⟩ : Chk)⟩ ?_
 refine kR ?_
 have hmod : nC s window mss = ((⟨nextOf s,s.data.extract (s.sent).toNat (s.sent + (chunkN s window mss)).toNat,false⟩),true) := by first | rfl | (simp [nC,zeroChk,chunkFin, *]; done) | (simp [nC,zeroChk,chunkFin, *]; omega) | grind [nC,zeroChk,chunkFin]
 exact ⟨[.agg (chkL (⟨nextOf s,s.data.extract (s.sent).toNat (s.sent + (chunkN s window mss)).toNat,false⟩ : Chk)).toArray,.bool true],by kernel_rfl,fun w' hb hf => by rw [hmod]; exact ⟨rfl,hb⟩⟩
theorem ysSentOff_c (s : Snd) (c : Chk) (w : World)  : Calls Tryz.prog 91 #[.agg (sndL s).toArray, .agg (chkL c).toArray] w fun e w' => e = .returned (.agg (sndL (sO s c)).toArray) ∧ Below w.heap.size w w' := by
 have hsf := sentS_fin s c
 refine x_calls (args := [.agg (sndL s).toArray,.agg (chkL c).toArray]) (fn := Tryz.f91) [] Tryz.func91 rfl Tryz.ntmps91 rfl (by simp) ?_
 refine kQ ?_
 refine kEF [2,3,4] ⟨[(2,.p 0 0),(3,.p 1 0),(4,.p 2 0)],[⟨38,sndL s⟩,⟨107,chkL c⟩,⟨38,sndZ⟩],[],[]⟩ ?_
 refine kQ ?_
 refine kEF [2,3,4,5] ⟨[(2,.p 0 0),(3,.p 1 0),(4,.p 2 0),(5,.p 3 0)],[⟨38,sndL s⟩,⟨107,chkL c⟩,⟨38,sndZ⟩,⟨38,sndL s⟩],[],[]⟩ ?_
 refine kQ ?_
 refine kEF [2,3,4,5] ⟨[(2,.p 0 0),(3,.p 1 0),(4,.p 2 0),(5,.p 3 0)],[⟨38,sndL s⟩,⟨107,chkL c⟩,⟨38,sndZ⟩,⟨38,sndL { s with sent := IntKind.i64.wrap (s.sent + (c.text.size : Int)) }⟩],[],[]⟩ ?_
 refine kS ?_
 refine xw_join ⟨[(2,.p 0 0),(3,.p 1 0),(4,.p 2 0),(5,.p 3 0)],[⟨38,sndL s⟩,⟨107,chkL c⟩,⟨38,sndZ⟩,⟨38,sndL { s with sent := IntKind.i64.wrap (s.sent + (c.text.size : Int)),finSent := s.finSent || c.fin }⟩],[],[]⟩ ?_ ?_
 refine kG ?_
 refine kRS 3 [2,3,4,5,16] [(2,.p 0 0),(3,.p 1 0),(4,.p 2 0),(5,.p 3 0),(16,.v (.bool s.finSent))] ?_
 refine kP 16 (s.finSent) (fun h1 => ?_) (fun h1 => ?_)
 refine kEF [2,3,4,5] ⟨[(2,.p 0 0),(3,.p 1 0),(4,.p 2 0),(5,.p 3 0)],[⟨38,sndL s⟩,⟨107,chkL c⟩,⟨38,sndZ⟩,⟨38,sndL { s with sent := IntKind.i64.wrap (s.sent + (c.text.size : Int)),finSent := true }⟩],[],[]⟩ ?_
 show Wk _ _
 try rw [h1]
 exact kF 4 0 [2,3,4,5]
 refine kEF [2,3,4,5] ⟨[(2,.p 0 0),(3,.p 1 0),(4,.p 2 0),(5,.p 3 0)],[⟨38,sndL s⟩,⟨107,chkL c⟩,⟨38,sndZ⟩,⟨38,sndL { s with sent := IntKind.i64.wrap (s.sent + (c.text.size : Int)),finSent := c.fin }⟩],[],[]⟩ ?_
 show Wk _ _
 try rw [h1]
 exact kF 4 0 [2,3,4,5]
 refine kS ?_
 refine kS ?_
 refine xw_join ⟨[(2,.p 0 0),(4,.p 2 0),(5,.p 3 0),(36,.v (.bool ((!(senderOk s)) || ((!(senderOk ({ s with sent := IntKind.i64.wrap (s.sent + (c.text.size : Int)),finSent := s.finSent || c.fin }))) || (c.fin && s.done)))))],[⟨38,sndL s⟩,⟨107,chkL c⟩,⟨38,sndZ⟩,⟨38,sndL { s with sent := IntKind.i64.wrap (s.sent + (c.text.size : Int)),finSent := s.finSent || c.fin }⟩],[],[]⟩ ?_ ?_
 refine kG ?_
 refine kCS 1 [2,3,4,5,21] [(2,.p 0 0),(3,.p 1 0),(4,.p 2 0),(5,.p 3 0),(21,.v (.agg (sndL s).toArray))] 64 [.agg (sndL s).toArray] (some 22) rfl (xc_b fun ww hf => sSenderOk_c s.una s.data s.sent s.fin s.finSent s.done ww ) ?_
 intro _
 refine kRS 2 [2,3,4,5,24] [(2,.p 0 0),(3,.p 1 0),(4,.p 2 0),(5,.p 3 0),(24,.v (.bool (!(senderOk s))))] ?_
 refine kP 24 (!(senderOk s)) (fun h2 => ?_) (fun h2 => ?_)
 have h2n := not_t h2
 refine kES [2,4,5,36] [(2,.p 0 0),(4,.p 2 0),(5,.p 3 0),(36,.v (.bool true))] ?_
 show Wk _ _
 try rw [h2]
 exact kF 4 0 [2,4,5,36]
 have h2n := not_f h2
 have h2nb := senderOk_bd (s := s) (by simpa using h2n)
 obtain ⟨h2nb0,h2nb1,h2nb2,h2nb3,h2nb4,h2nb5,h2nb6,h2nb7,h2nb8,h2nb9,h2nb10⟩ := h2nb
 refine kCS 1 [2,3,4,5,24,25] [(2,.p 0 0),(3,.p 1 0),(4,.p 2 0),(5,.p 3 0),(24,.v (.bool false)),(25,.v (.agg (sndL { s with sent := IntKind.i64.wrap (s.sent + (c.text.size : Int)),finSent := s.finSent || c.fin }).toArray))] 64 [.agg (sndL { s with sent := IntKind.i64.wrap (s.sent + (c.text.size : Int)),finSent := s.finSent || c.fin }).toArray] (some 26) rfl (xc_b fun ww hf => sSenderOk_c s.una s.data (IntKind.i64.wrap (s.sent + (c.text.size : Int))) s.fin (s.finSent || c.fin) s.done ww ) ?_
 intro _
 refine kRS 3 [2,3,4,5,29] [(2,.p 0 0),(3,.p 1 0),(4,.p 2 0),(5,.p 3 0),(29,.v (.bool (!(senderOk ({ s with sent := IntKind.i64.wrap (s.sent + (c.text.size : Int)),finSent := s.finSent || c.fin })))))] ?_
 refine kP 29 (!(senderOk ({ s with sent := IntKind.i64.wrap (s.sent + (c.text.size : Int)),finSent := s.finSent || c.fin }))) (fun h3 => ?_) (fun h3 => ?_)
 have h3n := not_t h3
 refine kES [2,4,5,36] [(2,.p 0 0),(4,.p 2 0),(5,.p 3 0),(36,.v (.bool true))] ?_
 show Wk _ _
 try rw [h2]
 try rw [h3]
 exact kF 4 0 [2,4,5,36]
 have h3n := not_f h3
 have h3nb := senderOk_bd (s := ({ s with sent := IntKind.i64.wrap (s.sent + (c.text.size : Int)),finSent := s.finSent || c.fin })) (by simpa using h3n)
 obtain ⟨h3nb0,h3nb1,h3nb2,h3nb3,h3nb4,h3nb5,h3nb6,h3nb7,h3nb8,h3nb9,h3nb10⟩ := h3nb
 refine kRS 3 [2,4,5,29,32] [(2,.p 0 0),(4,.p 2 0),(5,.p 3 0),(29,.v (.bool false)),(32,.v (.bool c.fin))] ?_
 refine kP 32 (c.fin) (fun h4 => ?_) (fun h4 => ?_)
 refine kES [2,4,5,36] [(2,.p 0 0),(4,.p 2 0),(5,.p 3 0),(36,.v (.bool s.done))] ?_
 show Wk _ _
 try rw [h2]
 try rw [h3]
 try rw [h4]
 exact kF 4 0 [2,4,5,36]
 refine kES [2,4,5,36] [(2,.p 0 0),(4,.p 2 0),(5,.p 3 0),(36,.v (.bool false))] ?_
 show Wk _ _
 try rw [h2]
 try rw [h3]
 try rw [h4]
 exact kF 4 0 [2,4,5,36]
 refine kC ((!(senderOk s)) || ((!(senderOk ({ s with sent := IntKind.i64.wrap (s.sent + (c.text.size : Int)),finSent := s.finSent || c.fin }))) || (c.fin && s.done))) (fun h5 => ?_) (fun h5 => ?_)
 refine kQ ?_
 refine kEF [4] ⟨[(4,.p 2 0)],[⟨38,sndL s⟩,⟨107,chkL c⟩,⟨38,sndL s⟩,⟨38,sndL { s with sent := IntKind.i64.wrap (s.sent + (c.text.size : Int)),finSent := s.finSent || c.fin }⟩],[],[]⟩ ?_
 refine kR ?_
 have hmod : sO s c = s := by first | rfl | (simp [sO,sentS, *]; done) | grind [sO,sentS]
 exact ⟨[.agg (sndL s).toArray],by kernel_rfl,fun w' hb hf => by rw [hmod]; exact ⟨rfl,hb⟩⟩
 have h5l := or_l h5
 have h5ln := not_f h5l
 have h5lnb := senderOk_bd (s := s) (by simpa using h5ln)
 obtain ⟨h5lnb0,h5lnb1,h5lnb2,h5lnb3,h5lnb4,h5lnb5,h5lnb6,h5lnb7,h5lnb8,h5lnb9,h5lnb10⟩ := h5lnb
 have h5r := or_r h5
 have h5rl := or_l h5r
 have h5rln := not_f h5rl
 have h5rlnb := senderOk_bd (s := ({ s with sent := IntKind.i64.wrap (s.sent + (c.text.size : Int)),finSent := s.finSent || c.fin })) (by simpa using h5rln)
 obtain ⟨h5rlnb0,h5rlnb1,h5rlnb2,h5rlnb3,h5rlnb4,h5rlnb5,h5rlnb6,h5rlnb7,h5rlnb8,h5rlnb9,h5rlnb10⟩ := h5rlnb
 have h5rr := or_r h5r
 refine kK ?_
 refine kQ ?_
 refine kEF [4] ⟨[(4,.p 2 0)],[⟨38,sndL s⟩,⟨107,chkL c⟩,⟨38,sndL { s with sent := IntKind.i64.wrap (s.sent + (c.text.size : Int)),finSent := s.finSent || c.fin }⟩,⟨38,sndL { s with sent := IntKind.i64.wrap (s.sent + (c.text.size : Int)),finSent := s.finSent || c.fin }⟩],[],[]⟩ ?_
 refine kR ?_
 have hmod : sO s c = ({ s with sent := IntKind.i64.wrap (s.sent + (c.text.size : Int)),finSent := s.finSent || c.fin }) := by first | rfl | (simp [sO,sentS, *]; done) | grind [sO,sentS]
 exact ⟨[.agg (sndL { s with sent := IntKind.i64.wrap (s.sent + (c.text.size : Int)),finSent := s.finSent || c.fin }).toArray],by kernel_rfl,fun w' hb hf => by rw [hmod]; exact ⟨rfl,hb⟩⟩
theorem ysQueued_c (s : Snd) (text : ByteArray) (w : World) (hts : text.size ≤ 4611686018427387904) : Calls Tryz.prog 163 #[.agg (sndL s).toArray, .string text] w fun e w' => e = .returned (.tuple #[.agg (sndL (queued s text).1).toArray, .int .i64 ((queued s text).2)]) ∧ Below w.heap.size w w' := by
 refine x_calls (args := [.agg (sndL s).toArray,.string text]) (fn := Tryz.f163) [] Tryz.func163 rfl Tryz.ntmps163 rfl (by simp) ?_
 refine kQ ?_
 refine kEF [1,2,4] ⟨[(1,.v (.string text)),(2,.p 0 0),(4,.p 1 0)],[⟨38,sndL s⟩,⟨38,sndZ⟩],[],[]⟩ ?_
 refine kS ?_
 refine kQ ?_
 refine kCD 1 [1,2,4,7] [(7,.v (.agg (sndL s).toArray))] 64 [.agg (sndL s).toArray] (some 8) rfl (xc_b fun ww hf => sSenderOk_c s.una s.data s.sent s.fin s.finSent s.done ww ) ?_
 intro _
 refine kRD 2 [1,2,4,10] [(10,.v (.bool (!(senderOk s))))] ?_
 refine kP 10 (!(senderOk s)) (fun h1 => ?_) (fun h1 => ?_)
 have h1n := not_t h1
 refine kED [1,2,4,13] [(13,.v (.bool true))] ?_
 refine kT ?_
 refine kQ ?_
 refine kEU [4,5] [(5,.v (.int .i64 0))] 1 ⟨38,sndL s⟩ ?_
 refine kR ?_
 have hmod : queued s text = (s,0) := by first | rfl | (simp [queued, *]; done) | grind [queued]
 exact ⟨[.agg (sndL s).toArray,.int .i64 0],by kernel_rfl,fun w' hb hf => by rw [hmod]; exact ⟨rfl,hb⟩⟩
 have h1n := not_f h1
 have h1nb := senderOk_bd (s := s) (by simpa using h1n)
 obtain ⟨h1nb0,h1nb1,h1nb2,h1nb3,h1nb4,h1nb5,h1nb6,h1nb7,h1nb8,h1nb9,h1nb10⟩ := h1nb
 refine kED [1,2,4,13] [(13,.v (.bool s.fin))] ?_
 refine kC (s.fin) (fun h2 => ?_) (fun h2 => ?_)
 refine kQ ?_
 refine kEU [4,5] [(5,.v (.int .i64 0))] 1 ⟨38,sndL s⟩ ?_
 refine kR ?_
 have hmod : queued s text = (s,0) := by first | rfl | (simp [queued, *]; done) | grind [queued]
 exact ⟨[.agg (sndL s).toArray,.int .i64 0],by kernel_rfl,fun w' hb hf => by rw [hmod]; exact ⟨rfl,hb⟩⟩
 refine kK ?_
 refine kQ ?_
 refine kCD 6 [1,2,4,16,20] [(16,.v (.int .i64 (text.size : Int))),(20,.v (.int .i64 (IntKind.i64.wrap (48 - (s.data.size : Int)))))] 75 [.int .i64 (text.size : Int),.int .i64 (IntKind.i64.wrap (48 - (s.data.size : Int)))] (some 21) rfl (xc_s fun ww hf => l1Min_c (text.size : Int) (IntKind.i64.wrap (48 - (s.data.size : Int))) ww ) ?_
 intro _
 refine kRD 1 [1,2,4,6] [(6,.v (.int .i64 (min (text.size : Int) (IntKind.i64.wrap (48 - (s.data.size : Int))))))] ?_
 refine xl_nv [1,2,4,6] [(6,.v (.int .i64 (min (text.size : Int) (IntKind.i64.wrap (48 - (s.data.size : Int))))))] [(6,.v (.int .i64 (min (text.size : Int) (48 - (s.data.size : Int)))))] (by rw [show (IntKind.i64.wrap (48 - (s.data.size : Int))) = (48 - (s.data.size : Int)) from wrap_id (by omega) (by omega)]) (by kernel_rfl) ?_
 refine kED [1,2,4,6] [] ?_
 refine kS ?_
 refine xe_region [false,true] (by kernel_rfl) (fun ρ σ => ?_)
 refine kTS [0,2,3] [25,24,22,2,4,6] 5 [(25,.v (.int .i64 (min (text.size : Int) (48 - (s.data.size : Int))))),(24,.v (.string text)),(22,.p 0 1),(2,.p 0 0),(4,.p 1 0),(6,.v (.int .i64 (min (text.size : Int) (48 - (s.data.size : Int)))))] ?_
 refine kX 4 (.string (text.extract 0 (min (text.size : Int) (48 - (s.data.size : Int))).toNat)) rfl (fun _ _ ww hA => act_slS0 (min (text.size : Int) (48 - (s.data.size : Int))) hA rfl (by kernel_rfl) rfl rfl (by omega) (by omega) ww) ?_
 refine kA [1] ?_
 refine kSV 1 (.v (.string s.data)) rfl ?_
 refine kX 5 (.string (s.data ++ (text.extract 0 (min (text.size : Int) (48 - (s.data.size : Int))).toNat))) rfl (fun _ _ ww hA => act_bin hA rfl (by kernel_rfl) (by kernel_rfl) (str_add (by first | omega | (simp only [ByteArray.size_extract]; omega)) ww)) ?_
 refine kTS [6] [28,27,2,4,6] 1 [(28,.p 0 1),(27,.v (.string (s.data ++ (text.extract 0 (min (text.size : Int) (48 - (s.data.size : Int))).toNat)))),(2,.p 0 0),(4,.p 1 0),(6,.v (.int .i64 (min (text.size : Int) (48 - (s.data.size : Int)))))] ?_
 refine kA [7] ?_
 refine kSS 7 0 1 [.string (s.data ++ (text.extract 0 (min (text.size : Int) (48 - (s.data.size : Int))).toNat))] rfl ?_
 refine kZ ?_
 refine kQ ?_
 refine kEU [4,5] [(5,.v (.int .i64 (min (text.size : Int) (48 - (s.data.size : Int)))))] 1 ⟨38,sndL { s with data := s.data ++ (text.extract 0 (min (text.size : Int) (48 - (s.data.size : Int))).toNat) }⟩ ?_
 refine kR ?_
 have hmod : queued s text = (({ s with data := s.data ++ (text.extract 0 (min (text.size : Int) (48 - (s.data.size : Int))).toNat) }),(min (text.size : Int) (48 - (s.data.size : Int)))) := by first | rfl | (simp [queued, *]; done) | grind [queued]
 exact ⟨[.agg (sndL { s with data := s.data ++ (text.extract 0 (min (text.size : Int) (48 - (s.data.size : Int))).toNat) }).toArray,.int .i64 (min (text.size : Int) (48 - (s.data.size : Int)))],by kernel_rfl,fun w' hb hf => by rw [hmod]; exact ⟨rfl,hb⟩⟩
theorem ysPump_c (c : Con) (rV : Value) (window : Int) (w : World) (hZ : Sl w rV 2 (c.r.held.map pC)) (hkn : c.r.held.length ≤ 1048576)(hm : ∀ p ∈ c.r.held, p.text.size ≤ 1048576) (hsz : c.r.data.size ≤ 4611686018427387904) (hwi : -9223372036854775808 ≤ window ∧ window ≤ 9223372036854775807) (B : Nat) (hB : B ≤ w.heap.size) : Calls Tryz.prog 36 #[.agg (conL c rV).toArray, .int .i64 window] w fun e w' => XRs w w' e (α := (Option Addr × Nat) × (Option Addr × Nat)) (fun y => .tuple #[.agg (conL (pump c window).1 (.slice y.1.1 ((pump c window).1.r.held.length) y.1.2)).toArray, .slice y.2.1 ((pump c window).2.length) y.2.2]) (fun y => [ownF B (.slice y.1.1 ((pump c window).1.r.held.length) y.1.2) 2 ((pump c window).1.r.held.map pC), rowF B 50 13 (.slice y.2.1 ((pump c window).2.length) y.2.2) ((pump c window).2.map segCells)]) := by
 obtain ⟨Z,Y,hY⟩ := hZ.form
 rw [List.length_map] at hY; subst hY
 have hJ := hZ.len; rw [List.length_map] at hJ
 have hqcrh := Sl.capLe hZ
 refine x_callsA (args := [.agg (conL c (.slice Z c.r.held.length Y)).toArray,.int .i64 window]) (fn := Tryz.f36) [slF (.slice Z c.r.held.length Y) 2 (c.r.held.map pC)] Tryz.func36 rfl Tryz.ntmps36 rfl (by simp only [List.mem_cons,List.not_mem_nil,or_false,forall_eq_or_imp,forall_eq]; exact ⟨rfl,hZ⟩) ?_
 refine kQ ?_
 refine kEF [1,2,4] ⟨[(1,.v (.int .i64 window)),(2,.p 0 0),(4,.p 1 0)],[⟨44,conL c (.slice Z c.r.held.length Y)⟩,⟨44,conZ⟩],[],[slF (.slice Z c.r.held.length Y) 2 (c.r.held.map pC)]⟩ ?_
 refine kQ ?_
 refine kCD 1 [1,2,4,10] [(10,.v (.agg (conL c (.slice Z c.r.held.length Y)).toArray))] 33 [.agg (conL c (.slice Z c.r.held.length Y)).toArray] (some 11) rfl (xc_r fun ww hw hf => yl19Copy_c c (.slice Z c.r.held.length Y) ww (hf _ m0) (by assumption) w.heap.size hw) ?_
 rintro ⟨v1a,v1c⟩
 refine kEU [1,2,4] [] 0 ⟨44,conL c (.slice v1a c.r.held.length v1c)⟩ ?_
 refine kQ ?_
 refine kHD 0 [1,2,4] [] rfl (hv_build (e := 50) (K := 13) (bytes := 104) [] rfl (by kernel_rfl) (by kernel_rfl) (by kernel_rfl) (by kernel_rfl) (by kernel_rfl) (rs := ([] : List Seg).map segCells) rfl) ?_
 intro g2
 refine kED [1,2,4,6] [(6,.v (.slice (some ⟨g2,0,none⟩) 0 0))] ?_
 refine kS ?_
 refine kQ ?_
 refine kCD 1 [1,2,4,6,13] [(13,.v (.agg (conL c (.slice v1a c.r.held.length v1c)).toArray))] 25 [.agg (conL c (.slice v1a c.r.held.length v1c)).toArray] (some 14) rfl (xc_b fun ww hf => ysConnOk_c c (.slice v1a c.r.held.length v1c) ww (Own.sl (hf _ m1)) (by assumption) (by omega)) ?_
 intro _
 refine kRD 2 [1,2,4,6,16] [(16,.v (.bool (!(conOk c))))] ?_
 refine kP 16 (!(conOk c)) (fun h3 => ?_) (fun h3 => ?_)
 have h3n := not_t h3
 refine kED [1,2,4,6,25] [(25,.v (.bool true))] ?_
 refine kT ?_
 refine kQ ?_
 refine kEU [4,5] [(5,.v (.slice (some ⟨g2,0,none⟩) 0 0))] 1 ⟨44,conL c (.slice v1a c.r.held.length v1c)⟩ ?_
 refine kR ?_
 have hmod : pump c window = (c,([] : List Seg)) := by first | (simp [pump, *]; done) | exact pump_yes hok hs8 hs7 hS hL (by first | exact HT.symm | (unfold tmr; rw [show L.isEmpty = decide (L.length = 0) from by cases L <;> rfl]; simp only [decide_eq_true_eq]; split <;> (try split) <;> omega))
 exact ⟨[.agg (conL c (.slice v1a c.r.held.length v1c)).toArray,.slice (some ⟨g2,0,none⟩) 0 0],by kernel_rfl,fun w' hb hf ha => by rw [hmod]; exact xo2 ((v1a,v1c),(((some ⟨g2,0,none⟩) : Option Addr),0)) rfl rfl (pO (hf _ m1) hB) (pW (hf _ m0) hB) (Apart.sub2 ha (i := 1) (j := 0) rfl rfl (by decide) rfl (fun b h => h) (fun b h => h)) hb⟩
 have h3n := not_f h3
 refine kRD 5 [1,2,4,6,21] [(21,.v (.bool (c.state == 8)))] ?_
 refine kP 21 (c.state == 8) (fun h4 => ?_) (fun h4 => ?_)
 have h4p := eqT h4
 refine kED [1,2,4,6,25] [(25,.v (.bool true))] ?_
 refine kT ?_
 refine kQ ?_
 refine kEU [4,5] [(5,.v (.slice (some ⟨g2,0,none⟩) 0 0))] 1 ⟨44,conL c (.slice v1a c.r.held.length v1c)⟩ ?_
 refine kR ?_
 have hmod : pump c window = (c,([] : List Seg)) := by first | (simp [pump, *]; done) | exact pump_yes hok hs8 hs7 hS hL (by first | exact HT.symm | (unfold tmr; rw [show L.isEmpty = decide (L.length = 0) from by cases L <;> rfl]; simp only [decide_eq_true_eq]; split <;> (try split) <;> omega))
 exact ⟨[.agg (conL c (.slice v1a c.r.held.length v1c)).toArray,.slice (some ⟨g2,0,none⟩) 0 0],by kernel_rfl,fun w' hb hf ha => by rw [hmod]; exact xo2 ((v1a,v1c),(((some ⟨g2,0,none⟩) : Option Addr),0)) rfl rfl (pO (hf _ m1) hB) (pW (hf _ m0) hB) (Apart.sub2 ha (i := 1) (j := 0) rfl rfl (by decide) rfl (fun b h => h) (fun b h => h)) hb⟩
 have h4p := eqF h4
 refine kED [1,2,4,6,25] [(25,.v (.bool (c.state == 7)))] ?_
 refine kC (c.state == 7) (fun h5 => ?_) (fun h5 => ?_)
 have h5p := eqT h5
 refine kQ ?_
 refine kEU [4,5] [(5,.v (.slice (some ⟨g2,0,none⟩) 0 0))] 1 ⟨44,conL c (.slice v1a c.r.held.length v1c)⟩ ?_
 refine kR ?_
 have hmod : pump c window = (c,([] : List Seg)) := by first | (simp [pump, *]; done) | exact pump_yes hok hs8 hs7 hS hL (by first | exact HT.symm | (unfold tmr; rw [show L.isEmpty = decide (L.length = 0) from by cases L <;> rfl]; simp only [decide_eq_true_eq]; split <;> (try split) <;> omega))
 exact ⟨[.agg (conL c (.slice v1a c.r.held.length v1c)).toArray,.slice (some ⟨g2,0,none⟩) 0 0],by kernel_rfl,fun w' hb hf ha => by rw [hmod]; exact xo2 ((v1a,v1c),(((some ⟨g2,0,none⟩) : Option Addr),0)) rfl rfl (pO (hf _ m1) hB) (pW (hf _ m0) hB) (Apart.sub2 ha (i := 1) (j := 0) rfl rfl (by decide) rfl (fun b h => h) (fun b h => h)) hb⟩
 have h5p := eqF h5
 refine kK ?_
 refine xw_block ?_
 have hok : conOk c = true := by simp_all
 have hs8 : ¬ c.state = 8 := by simp_all
 have hs7 : ¬ c.state = 7 := by simp_all
 refine xw_loopW (α := {x : Snd × List Seg × Int × Option Addr × Nat // (fun (s : Snd) (L : List Seg) (t : Int) (A : Option Addr) (cap : Nat) => (pumpC c.s window (mssO c.o)).1 = (pumpC s window (mssO c.o)).1 ∧ (pumpC c.s window (mssO c.o)).2.map (segOf c) = L ++ (pumpC s window (mssO c.o)).2.map (segOf c) ∧ L.length + meas s ≤ 49 ∧ t = tmr c L) x.1 x.2.1 x.2.2.1 x.2.2.2.1 x.2.2.2.2}) (fun x => (fun (s : Snd) (L : List Seg) (t : Int) (A : Option Addr) (cap : Nat) => (⟨[(1,.v (.int .i64 window)),(2,.p 0 0),(4,.p 1 0),(6,.v (.slice A L.length cap))],[⟨44,conL { c with s := s,timer := t } (.slice v1a c.r.held.length v1c)⟩,⟨44,conZ⟩],[],[rowF w.heap.size 50 13 (.slice A L.length cap) (L.map segCells),ownF w.heap.size (.slice v1a c.r.held.length v1c) 2 (c.r.held.map pC),slF (.slice Z c.r.held.length Y) 2 (c.r.held.map pC)]⟩ : St)) x.1.1 x.1.2.1 x.1.2.2.1 x.1.2.2.2.1 x.1.2.2.2.2) (fun x => (fun (s : Snd) (L : List Seg) (t : Int) (A : Option Addr) (cap : Nat) => meas s) x.1.1 x.1.2.1 x.1.2.2.1 x.1.2.2.2.1 x.1.2.2.2.2) ⟨(c.s,([] : List Seg),c.timer,(some ⟨g2,0,none⟩),0),⟨rfl,rfl,(by have := meas_le (conOk_s hok); simp only [List.length_nil]; omega),rfl⟩⟩ (kPk [0,1,2] <| kF 2 0 [1,2,4,6]) ?_
 rintro ⟨⟨s,L,t,A,cap⟩,HS,HL,HR,HT⟩
 try dsimp only
 try dsimp only at HS HL HR HT
 refine xw_block ?_
 refine kS ?_
 refine xw_join ⟨[(1,.v (.int .i64 window)),(2,.p 0 0),(4,.p 1 0),(6,.v (.slice A L.length cap)),(7,.p 2 0),(8,.v (.bool ((nC s window (mssO c.o)).2)))],[⟨44,conL { c with s := s,timer := t } (.slice v1a c.r.held.length v1c)⟩,⟨44,conZ⟩,⟨107,chkL (nC s window (mssO c.o)).1⟩],[],[rowF w.heap.size 50 13 (.slice A L.length cap) (L.map segCells),ownF w.heap.size (.slice v1a c.r.held.length v1c) 2 (c.r.held.map pC),slF (.slice Z c.r.held.length Y) 2 (c.r.held.map pC)]⟩ ?_ ?_
 refine xe_region [] (by kernel_rfl) (fun ρ σ => ?_)
 refine kTD [0,1,2,3] [32,31,30,1,2,4,6] 8 [(32,.v (.agg (conL { c with s := s,timer := t } (.slice v1a c.r.held.length v1c)).toArray)),(31,.v (.int .i64 window)),(30,.v (.agg (sndL s).toArray))] ?_
 refine kA [4,9] ⟨?_,?_⟩
 refine kSC 4 90 [.agg (conL { c with s := s,timer := t } (.slice v1a c.r.held.length v1c)).toArray] (some 33) rfl (xc_b fun ww hf => ysMssFor_c ({ c with s := s,timer := t }) (.slice v1a c.r.held.length v1c) ww ) ?_
 intro _
 refine kA [5,9] ⟨?_,?_⟩
 refine kSC 5 89 [.agg (sndL s).toArray,.int .i64 window,.int .i64 (mssO c.o)] (some 34) rfl (xc_b fun ww hf => ysNextChunk_c s window (mssO c.o) ww  (by first | omega | (rw [wrap_id (by omega) (by omega)]; omega))) ?_
 intro _
 refine kTD [6,7,8] [36,35,1,2,4,6] 3 [(36,.v (.bool ((nC s window (mssO c.o)).2))),(35,.v (.agg (chkL (nC s window (mssO c.o)).1).toArray))] ?_
 refine kA [9] ?_
 refine xs_box 9 ⟨107,chkL (⟨0,(⟨#[]⟩ : ByteArray),false⟩ : Chk)⟩ _ rfl (by kernel_rfl) (by kernel_rfl) (by kernel_rfl) (by kernel_rfl) rfl ?_
 refine kA [10] ?_
 refine kSS 10 2 0 (chkL (nC s window (mssO c.o)).1) rfl ?_
 refine kTS [11] [8,7,1,2,4,6] 0 [(8,.v (.bool ((nC s window (mssO c.o)).2))),(7,.p 2 0),(1,.v (.int .i64 window)),(2,.p 0 0),(4,.p 1 0),(6,.v (.slice A L.length cap))] ?_
 refine kZ ?_
 exact kF 3 0 [1,2,4,6,7,8]
 refine xs_box 9 ⟨107,chkL (⟨0,(⟨#[]⟩ : ByteArray),false⟩ : Chk)⟩ _ rfl (by kernel_rfl) (by kernel_rfl) (by kernel_rfl) (by kernel_rfl) rfl ?_
 refine kA [5] ?_
 refine kSC 5 89 [.agg (sndL s).toArray,.int .i64 window,.int .i64 (mssO c.o)] (some 34) rfl (xc_b fun ww hf => ysNextChunk_c s window (mssO c.o) ww  (by first | omega | (rw [wrap_id (by omega) (by omega)]; omega))) ?_
 intro _
 refine kTD [6,7,8] [36,35,7,1,2,4,6] 2 [(36,.v (.bool ((nC s window (mssO c.o)).2))),(35,.v (.agg (chkL (nC s window (mssO c.o)).1).toArray))] ?_
 refine kA [10] ?_
 refine kSS 10 2 0 (chkL (nC s window (mssO c.o)).1) rfl ?_
 refine kTS [11] [8,7,1,2,4,6] 0 [(8,.v (.bool ((nC s window (mssO c.o)).2))),(7,.p 2 0),(1,.v (.int .i64 window)),(2,.p 0 0),(4,.p 1 0),(6,.v (.slice A L.length cap))] ?_
 refine kZ ?_
 exact kF 3 0 [1,2,4,6,7,8]
 refine xs_box 9 ⟨107,chkL (⟨0,(⟨#[]⟩ : ByteArray),false⟩ : Chk)⟩ _ rfl (by kernel_rfl) (by kernel_rfl) (by kernel_rfl) (by kernel_rfl) rfl ?_
 refine kA [4] ?_
 refine kSC 4 90 [.agg (conL { c with s := s,timer := t } (.slice v1a c.r.held.length v1c)).toArray] (some 33) rfl (xc_b fun ww hf => ysMssFor_c ({ c with s := s,timer := t }) (.slice v1a c.r.held.length v1c) ww ) ?_
 intro _
 refine kA [5] ?_
 refine kSC 5 89 [.agg (sndL s).toArray,.int .i64 window,.int .i64 (mssO c.o)] (some 34) rfl (xc_b fun ww hf => ysNextChunk_c s window (mssO c.o) ww  (by first | omega | (rw [wrap_id (by omega) (by omega)]; omega))) ?_
 intro _
 refine kTD [6,7,8] [36,35,7,1,2,4,6] 2 [(36,.v (.bool ((nC s window (mssO c.o)).2))),(35,.v (.agg (chkL (nC s window (mssO c.o)).1).toArray))] ?_
 refine kA [10] ?_
 refine kSS 10 2 0 (chkL (nC s window (mssO c.o)).1) rfl ?_
 refine kTS [11] [8,7,1,2,4,6] 0 [(8,.v (.bool ((nC s window (mssO c.o)).2))),(7,.p 2 0),(1,.v (.int .i64 window)),(2,.p 0 0),(4,.p 1 0),(6,.v (.slice A L.length cap))] ?_
 refine kZ ?_
 exact kF 3 0 [1,2,4,6,7,8]
 refine kS ?_
 refine kQ ?_
 refine kED [1,2,4,6,7,38] [(38,.v (.bool (!((nC s window (mssO c.o)).2))))] ?_
 refine kC (!((nC s window (mssO c.o)).2)) (fun h6 => ?_) (fun h6 => ?_)
 have hno := not_t h6
 have hS := pumpS_end hno HS
 have hL := pumpL_end hno HL
 refine kQ ?_
 refine kEF [4,5] ⟨[(4,.p 1 0),(5,.v (.slice A L.length cap))],[⟨44,conL { c with s := s,timer := t } (.slice v1a c.r.held.length v1c)⟩,⟨44,conL { c with s := s,timer := t } (.slice v1a c.r.held.length v1c)⟩,⟨107,chkL (nC s window (mssO c.o)).1⟩],[],[rowF w.heap.size 50 13 (.slice A L.length cap) (L.map segCells),ownF w.heap.size (.slice v1a c.r.held.length v1c) 2 (c.r.held.map pC),slF (.slice Z c.r.held.length Y) 2 (c.r.held.map pC)]⟩ ?_
 refine kR ?_
 have hmod : pump c window = (({ c with s := s,timer := t }),L) := by first | (simp [pump, *]; done) | exact pump_yes hok hs8 hs7 hS hL (by first | exact HT.symm | (unfold tmr; rw [show L.isEmpty = decide (L.length = 0) from by cases L <;> rfl]; simp only [decide_eq_true_eq]; split <;> (try split) <;> omega))
 exact ⟨[.agg (conL { c with s := s,timer := t } (.slice v1a c.r.held.length v1c)).toArray,.slice A L.length cap],by kernel_rfl,fun w' hb hf ha => by rw [hmod]; exact xo2 ((v1a,v1c),(A,cap)) rfl rfl (pO (hf _ m1) hB) (pW (hf _ m0) hB) (Apart.sub2 ha (i := 1) (j := 0) rfl rfl (by decide) rfl (fun b h => h) (fun b h => h)) hb⟩
 have hyes := not_f h6
 refine kK ?_
 refine kQ ?_
 refine kCS 1 [1,2,4,6,7,41] [(1,.v (.int .i64 window)),(2,.p 0 0),(4,.p 1 0),(6,.v (.slice A L.length cap)),(7,.p 2 0),(41,.v (.agg (conL { c with s := s,timer := t } (.slice v1a c.r.held.length v1c)).toArray))] 35 [.agg (conL { c with s := s,timer := t } (.slice v1a c.r.held.length v1c)).toArray] (some 42) rfl (xc_b fun ww hf => sAckOf_c c.t.ip c.t.port c.t.my c.state s.una s.data s.sent s.fin s.finSent s.done c.r.next c.r.data c.r.held (.slice v1a c.r.held.length v1c) c.r.fin c.r.done c.window c.most c.o.mss c.o.scale c.o.sack c.o.stamp c.o.val c.o.echo t c.tries ww (by omega)) ?_
 intro _
 refine kEA [1,2,4,6,7,9] [(9,.p 3 0)] [⟨50,[.int .i64 c.t.my,.int .i64 c.t.port,.int .i64 (nextOf s),.int .i64 c.r.next,.int .i64 16,.int .i64 (wO c.r),.int .i64 0,.int .i64 (-1),.bool false,.bool false,.int .i64 0,.int .i64 0,.string (⟨#[]⟩ : ByteArray)]⟩] ?_
 refine kQ ?_
 refine kEU [1,2,4,6,7,9] [] 3 ⟨50,[.int .i64 c.t.my,.int .i64 c.t.port,.int .i64 ((nC s window (mssO c.o)).1.seq),.int .i64 c.r.next,.int .i64 16,.int .i64 (wO c.r),.int .i64 0,.int .i64 (-1),.bool false,.bool false,.int .i64 0,.int .i64 0,.string (⟨#[]⟩ : ByteArray)]⟩ ?_
 refine kQ ?_
 refine kEU [1,2,4,6,7,9] [] 3 ⟨50,[.int .i64 c.t.my,.int .i64 c.t.port,.int .i64 ((nC s window (mssO c.o)).1.seq),.int .i64 c.r.next,.int .i64 16,.int .i64 (wO c.r),.int .i64 0,.int .i64 (-1),.bool false,.bool false,.int .i64 0,.int .i64 0,.string ((nC s window (mssO c.o)).1.text)]⟩ ?_
 refine kS ?_
 refine xw_joinF (α := {zz : Int // (fun (ka : Int) => ka = segFl (nC s window (mssO c.o)).1 false) zz}) (fun zz => (fun (ka : Int) => (⟨[(1,.v (.int .i64 window)),(2,.p 0 0),(4,.p 1 0),(6,.v (.slice A L.length cap)),(7,.p 2 0),(9,.p 3 0)],[⟨44,conL { c with s := s,timer := t } (.slice v1a c.r.held.length v1c)⟩,⟨44,conZ⟩,⟨107,chkL (nC s window (mssO c.o)).1⟩,⟨50,[.int .i64 c.t.my,.int .i64 c.t.port,.int .i64 ((nC s window (mssO c.o)).1.seq),.int .i64 c.r.next,.int .i64 ka,.int .i64 (wO c.r),.int .i64 0,.int .i64 (-1),.bool false,.bool false,.int .i64 0,.int .i64 0,.string ((nC s window (mssO c.o)).1.text)]⟩],[],[rowF w.heap.size 50 13 (.slice A L.length cap) (L.map segCells),ownF w.heap.size (.slice v1a c.r.held.length v1c) 2 (c.r.held.map pC),slF (.slice Z c.r.held.length Y) 2 (c.r.held.map pC)]⟩ : St)) zz.1) ?_ ?_
 refine kQ ?_
 refine kED [1,2,4,6,7,9,51] [(51,.v (.bool (!(((nC s window (mssO c.o)).1.text).toList == (⟨#[]⟩ : ByteArray).toList))))] ?_
 refine kC (!(((nC s window (mssO c.o)).1.text).toList == (⟨#[]⟩ : ByteArray).toList)) (fun h7 => ?_) (fun h7 => ?_)
 have hT : (nC s window (mssO c.o)).1.text.toList.isEmpty = false := by simpa [toList_lit0] using h7
 refine kG ?_
 refine kEU [1,2,4,6,7,9] [] 3 ⟨50,[.int .i64 c.t.my,.int .i64 c.t.port,.int .i64 ((nC s window (mssO c.o)).1.seq),.int .i64 c.r.next,.int .i64 24,.int .i64 (wO c.r),.int .i64 0,.int .i64 (-1),.bool false,.bool false,.int .i64 0,.int .i64 0,.string ((nC s window (mssO c.o)).1.text)]⟩ ?_
 exact ⟨⟨(24),(by first | (simp [segFl,hT]; done) | (rw [hF,hka]; simp [segFl]; done) | (rw [hF]; exact hka))⟩,kF 4 0 [1,2,4,6,7,9]⟩
 have hT : (nC s window (mssO c.o)).1.text.toList.isEmpty = true := by simpa [toList_lit0] using h7
 refine kK ?_
 exact ⟨⟨(16),(by first | (simp [segFl,hT]; done) | (rw [hF,hka]; simp [segFl]; done) | (rw [hF]; exact hka))⟩,kF 4 0 [1,2,4,6,7,9]⟩
 rintro ⟨ka,hka⟩
 try dsimp only
 try dsimp only at hka
 refine kS ?_
 refine xw_joinF (α := {zz : Int // (fun (kb : Int) => kb = segFl (nC s window (mssO c.o)).1 (nC s window (mssO c.o)).1.fin) zz}) (fun zz => (fun (kb : Int) => (⟨[(1,.v (.int .i64 window)),(2,.p 0 0),(4,.p 1 0),(6,.v (.slice A L.length cap)),(7,.p 2 0),(9,.p 3 0)],[⟨44,conL { c with s := s,timer := t } (.slice v1a c.r.held.length v1c)⟩,⟨44,conZ⟩,⟨107,chkL (nC s window (mssO c.o)).1⟩,⟨50,[.int .i64 c.t.my,.int .i64 c.t.port,.int .i64 ((nC s window (mssO c.o)).1.seq),.int .i64 c.r.next,.int .i64 kb,.int .i64 (wO c.r),.int .i64 0,.int .i64 (-1),.bool false,.bool false,.int .i64 0,.int .i64 0,.string ((nC s window (mssO c.o)).1.text)]⟩],[],[rowF w.heap.size 50 13 (.slice A L.length cap) (L.map segCells),ownF w.heap.size (.slice v1a c.r.held.length v1c) 2 (c.r.held.map pC),slF (.slice Z c.r.held.length Y) 2 (c.r.held.map pC)]⟩ : St)) zz.1) ?_ ?_
 refine kQ ?_
 refine kED [1,2,4,6,7,9,57] [(57,.v (.bool ((nC s window (mssO c.o)).1.fin)))] ?_
 refine kC ((nC s window (mssO c.o)).1.fin) (fun h8 => ?_) (fun h8 => ?_)
 have hF := h8
 refine kG ?_
 refine kRB 5 [1,2,4,6,7,9] [(1,.v (.int .i64 window)),(2,.p 0 0),(4,.p 1 0),(6,.v (.slice A L.length cap)),(7,.p 2 0),(9,.p 3 0)] [⟨44,conL { c with s := s,timer := t } (.slice v1a c.r.held.length v1c)⟩,⟨44,conZ⟩,⟨107,chkL (nC s window (mssO c.o)).1⟩,⟨50,[.int .i64 c.t.my,.int .i64 c.t.port,.int .i64 ((nC s window (mssO c.o)).1.seq),.int .i64 c.r.next,.int .i64 (IntKind.i64.wrap (BitVec.ofInt 64 ka ||| BitVec.ofInt 64 1).toNat),.int .i64 (wO c.r),.int .i64 0,.int .i64 (-1),.bool false,.bool false,.int .i64 0,.int .i64 0,.string ((nC s window (mssO c.o)).1.text)]⟩] ?_
 refine xl_eq (st' := ⟨[(1,.v (.int .i64 window)),(2,.p 0 0),(4,.p 1 0),(6,.v (.slice A L.length cap)),(7,.p 2 0),(9,.p 3 0)],[⟨44,conL { c with s := s,timer := t } (.slice v1a c.r.held.length v1c)⟩,⟨44,conZ⟩,⟨107,chkL (nC s window (mssO c.o)).1⟩,⟨50,[.int .i64 c.t.my,.int .i64 c.t.port,.int .i64 ((nC s window (mssO c.o)).1.seq),.int .i64 c.r.next,.int .i64 (ka + 1),.int .i64 (wO c.r),.int .i64 0,.int .i64 (-1),.bool false,.bool false,.int .i64 0,.int .i64 0,.string ((nC s window (mssO c.o)).1.text)]⟩],[],[rowF w.heap.size 50 13 (.slice A L.length cap) (L.map segCells),ownF w.heap.size (.slice v1a c.r.held.length v1c) 2 (c.r.held.map pC),slF (.slice Z c.r.held.length Y) 2 (c.r.held.map pC)]⟩) (by rw [show (IntKind.i64.wrap (BitVec.ofInt 64 ka ||| BitVec.ofInt 64 1).toNat) = (ka + 1) from segFl_or hka] <;> rfl) ?_
 refine kED [1,2,4,6,7,9] [] ?_
 exact ⟨⟨(ka + 1),(by first | (simp [segFl,hT]; done) | (rw [hF,hka]; simp [segFl]; done) | (rw [hF]; exact hka))⟩,kF 4 0 [1,2,4,6,7,9]⟩
 have hF := h8
 refine kK ?_
 exact ⟨⟨(ka),(by first | (simp [segFl,hT]; done) | (rw [hF,hka]; simp [segFl]; done) | (rw [hF]; exact hka))⟩,kF 4 0 [1,2,4,6,7,9]⟩
 rintro ⟨kb,hkb⟩
 try dsimp only
 try dsimp only at hkb
 refine kQ ?_
 refine kHD 2 [1,2,4,6,7,62,63] [(62,.v (.slice A L.length cap)),(63,.v (.agg #[.int .i64 c.t.my,.int .i64 c.t.port,.int .i64 ((nC s window (mssO c.o)).1.seq),.int .i64 c.r.next,.int .i64 kb,.int .i64 (wO c.r),.int .i64 0,.int .i64 (-1),.bool false,.bool false,.int .i64 0,.int .i64 0,.string ((nC s window (mssO c.o)).1.text)]))] rfl (hv_build (e := 50) (K := 13) (bytes := 104) [.agg #[.int .i64 c.t.my,.int .i64 c.t.port,.int .i64 ((nC s window (mssO c.o)).1.seq),.int .i64 c.r.next,.int .i64 kb,.int .i64 (wO c.r),.int .i64 0,.int .i64 (-1),.bool false,.bool false,.int .i64 0,.int .i64 0,.string ((nC s window (mssO c.o)).1.text)]] rfl (by kernel_rfl) (by kernel_rfl) (by kernel_rfl) (by kernel_rfl) (by kernel_rfl) (rs := ([⟨c.t.my,c.t.port,(nC s window (mssO c.o)).1.seq,c.r.next,kb,wO c.r,⟨0,(-1),false,false,0,0⟩,(nC s window (mssO c.o)).1.text⟩] : List Seg).map segCells) rfl) ?_
 intro g9
 refine kHD 0 [1,2,4,6,7,62,64] [] rfl (hv_append (e := 50) (K := 13) (bytes := 104) (i := 1) (q := (L ++ ([⟨c.t.my,c.t.port,(nC s window (mssO c.o)).1.seq,c.r.next,kb,wO c.r,⟨0,(-1),false,false,0,0⟩,(nC s window (mssO c.o)).1.text⟩] : List Seg)).length) (new := ([⟨c.t.my,c.t.port,(nC s window (mssO c.o)).1.seq,c.r.next,kb,wO c.r,⟨0,(-1),false,false,0,0⟩,(nC s window (mssO c.o)).1.text⟩] : List Seg).map segCells) (rs' := (L ++ ([⟨c.t.my,c.t.port,(nC s window (mssO c.o)).1.seq,c.r.next,kb,wO c.r,⟨0,(-1),false,false,0,0⟩,(nC s window (mssO c.o)).1.text⟩] : List Seg)).map segCells) rfl rfl rfl rfl (by kernel_rfl) (by kernel_rfl) (by kernel_rfl) rfl (by simp) (by rw [List.map_append]) (by simp) (fun ww hf => (rowF_sl (hf (rowF w.heap.size 50 13 (.slice (some ⟨g9,0,none⟩) 1 1) (([⟨c.t.my,c.t.port,(nC s window (mssO c.o)).1.seq,c.r.next,kb,wO c.r,⟨0,(-1),false,false,0,0⟩,(nC s window (mssO c.o)).1.text⟩] : List Seg).map segCells)) (by simp)))) (by intro r hr; obtain ⟨x,hx,rfl⟩ := List.mem_map.1 hr; exact ⟨rfl,by simp [segCells,Value.oneCell']⟩) (by (try simp only [List.length_map,List.length_append,List.length_cons,List.length_nil,List.length_take,List.length_drop,maxLen]); omega) (by (try simp only [List.length_map,List.length_append,List.length_cons,List.length_nil,List.length_take,List.length_drop,maxLen]); omega)) ?_
 rintro ⟨v10a,v10c⟩
 refine kED [1,2,4,6,7] [(6,.v (.slice v10a ((L ++ ([⟨c.t.my,c.t.port,(nC s window (mssO c.o)).1.seq,c.r.next,kb,wO c.r,⟨0,(-1),false,false,0,0⟩,(nC s window (mssO c.o)).1.text⟩] : List Seg)).length) v10c))] ?_
 refine kQ ?_
 refine kCD 3 [1,2,4,6,67,68] [(67,.v (.agg (sndL s).toArray)),(68,.v (.agg (chkL (nC s window (mssO c.o)).1).toArray))] 91 [.agg (sndL s).toArray,.agg (chkL (nC s window (mssO c.o)).1).toArray] (some 69) rfl (xc_b fun ww hf => ysSentOff_c s ((nC s window (mssO c.o)).1) ww  ) ?_
 intro _
 refine kEU [1,2,4,6] [] 0 ⟨44,conL { c with s := (sO s ((nC s window (mssO c.o)).1)),timer := t } (.slice v1a c.r.held.length v1c)⟩ ?_
 refine kQ ?_
 refine kED [1,2,4,6,73] [(73,.v (.bool (t == 0)))] ?_
 refine kC (t == 0) (fun h11 => ?_) (fun h11 => ?_)
 have h11p := eqT h11
 refine kG ?_
 refine kEU [1,2,4,6] [] 0 ⟨44,conL { c with s := (sO s ((nC s window (mssO c.o)).1)),timer := 3 } (.slice v1a c.r.held.length v1c)⟩ ?_
 have hrow : segOf c (nC s window (mssO c.o)).1 = ⟨c.t.my,c.t.port,(nC s window (mssO c.o)).1.seq,c.r.next,kb,wO c.r,⟨0,(-1),false,false,0,0⟩,(nC s window (mssO c.o)).1.text⟩ := by rw [hkb]; rfl
 exact ⟨⟨(sO s (nC s window (mssO c.o)).1,(L ++ ([⟨c.t.my,c.t.port,(nC s window (mssO c.o)).1.seq,c.r.next,kb,wO c.r,⟨0,(-1),false,false,0,0⟩,(nC s window (mssO c.o)).1.text⟩] : List Seg)),3,v10a,v10c),⟨pumpS_step hyes HS,pumpL_step hyes hrow HL,row_len HR (meas_next hyes),tmr_next HT (by (try dsimp only); split <;> omega)⟩⟩,kPk [0,2,3] <| kF 2 0 [1,2,4,6],by show (fun (s : Snd) (L : List Seg) (t : Int) (A : Option Addr) (cap : Nat) => meas s) (sO s (nC s window (mssO c.o)).1) (L ++ ([⟨c.t.my,c.t.port,(nC s window (mssO c.o)).1.seq,c.r.next,kb,wO c.r,⟨0,(-1),false,false,0,0⟩,(nC s window (mssO c.o)).1.text⟩] : List Seg)) 3 v10a v10c < meas s; exact meas_next hyes⟩
 have h11p := eqF h11
 refine kK ?_
 have hrow : segOf c (nC s window (mssO c.o)).1 = ⟨c.t.my,c.t.port,(nC s window (mssO c.o)).1.seq,c.r.next,kb,wO c.r,⟨0,(-1),false,false,0,0⟩,(nC s window (mssO c.o)).1.text⟩ := by rw [hkb]; rfl
 exact ⟨⟨(sO s (nC s window (mssO c.o)).1,(L ++ ([⟨c.t.my,c.t.port,(nC s window (mssO c.o)).1.seq,c.r.next,kb,wO c.r,⟨0,(-1),false,false,0,0⟩,(nC s window (mssO c.o)).1.text⟩] : List Seg)),t,v10a,v10c),⟨pumpS_step hyes HS,pumpL_step hyes hrow HL,row_len HR (meas_next hyes),tmr_next HT (by (try dsimp only); split <;> omega)⟩⟩,kPk [0,2,3] <| kF 2 0 [1,2,4,6],by show (fun (s : Snd) (L : List Seg) (t : Int) (A : Option Addr) (cap : Nat) => meas s) (sO s (nC s window (mssO c.o)).1) (L ++ ([⟨c.t.my,c.t.port,(nC s window (mssO c.o)).1.seq,c.r.next,kb,wO c.r,⟨0,(-1),false,false,0,0⟩,(nC s window (mssO c.o)).1.text⟩] : List Seg)) t v10a v10c < meas s; exact meas_next hyes⟩
theorem ysShut_c (c : Con) (rV : Value) (w : World) (hZ : Sl w rV 2 (c.r.held.map pC)) (hkn : c.r.held.length ≤ 1048576)(hm : ∀ p ∈ c.r.held, p.text.size ≤ 1048576) (hsz : c.r.data.size ≤ 4611686018427387904) (B : Nat) (hB : B ≤ w.heap.size) : Calls Tryz.prog 153 #[.agg (conL c rV).toArray] w fun e w' => XRs w w' e (α := (Option Addr × Nat) × (Option Addr × Nat)) (fun y => .tuple #[.agg (conL (shut c).1 (.slice y.1.1 ((shut c).1.r.held.length) y.1.2)).toArray, .slice y.2.1 ((shut c).2.length) y.2.2]) (fun y => [ownF B (.slice y.1.1 ((shut c).1.r.held.length) y.1.2) 2 ((shut c).1.r.held.map pC), ownF B (.slice y.2.1 ((shut c).2.length) y.2.2) 13 ((shut c).2.map segCells)]) := by
 obtain ⟨Z,Y,hY⟩ := hZ.form
 rw [List.length_map] at hY; subst hY
 have hJ := hZ.len; rw [List.length_map] at hJ
 have hqcrh := Sl.capLe hZ
 refine x_callsA (args := [.agg (conL c (.slice Z c.r.held.length Y)).toArray]) (fn := Tryz.f153) [slF (.slice Z c.r.held.length Y) 2 (c.r.held.map pC)] Tryz.func153 rfl Tryz.ntmps153 rfl (by simp only [List.mem_cons,List.not_mem_nil,or_false,forall_eq_or_imp,forall_eq]; exact ⟨rfl,hZ⟩) ?_
 refine kQ ?_
 refine kEF [1,2] ⟨[(1,.p 0 0),(2,.p 1 0)],[⟨44,conL c (.slice Z c.r.held.length Y)⟩,⟨44,conZ⟩],[],[slF (.slice Z c.r.held.length Y) 2 (c.r.held.map pC)]⟩ ?_
 refine kQ ?_
 refine kCS 1 [1,2,5] [(1,.p 0 0),(2,.p 1 0),(5,.v (.agg (conL c (.slice Z c.r.held.length Y)).toArray))] 33 [.agg (conL c (.slice Z c.r.held.length Y)).toArray] (some 6) rfl (xc_r fun ww hw hf => yl19Copy_c c (.slice Z c.r.held.length Y) ww (hf _ m0) (by assumption) w.heap.size hw) ?_
 rintro ⟨v1a,v1c⟩
 refine kEF [1,2,4] ⟨[(1,.p 0 0),(2,.p 1 0),(4,.p 2 0)],[⟨44,conL c (.slice Z c.r.held.length Y)⟩,⟨44,conZ⟩,⟨44,conL c (.slice v1a c.r.held.length v1c)⟩],[],[ownF w.heap.size (.slice v1a c.r.held.length v1c) 2 (c.r.held.map pC),slF (.slice Z c.r.held.length Y) 2 (c.r.held.map pC)]⟩ ?_
 refine kS ?_
 refine kS ?_
 refine xw_join ⟨[(1,.p 0 0),(2,.p 1 0),(4,.p 2 0),(19,.v (.bool ((!(conOk c)) || ((c.state != 1) && (c.state != 4)))))],[⟨44,conL c (.slice Z c.r.held.length Y)⟩,⟨44,conZ⟩,⟨44,conL c (.slice v1a c.r.held.length v1c)⟩],[],[ownF w.heap.size (.slice v1a c.r.held.length v1c) 2 (c.r.held.map pC),slF (.slice Z c.r.held.length Y) 2 (c.r.held.map pC)]⟩ ?_ ?_
 refine kG ?_
 refine kCS 1 [1,2,4,7] [(1,.p 0 0),(2,.p 1 0),(4,.p 2 0),(7,.v (.agg (conL c (.slice Z c.r.held.length Y)).toArray))] 25 [.agg (conL c (.slice Z c.r.held.length Y)).toArray] (some 8) rfl (xc_b fun ww hf => ysConnOk_c c (.slice Z c.r.held.length Y) ww (hf _ m1) (by assumption) (by omega)) ?_
 intro _
 refine kRS 2 [1,2,4,10] [(1,.p 0 0),(2,.p 1 0),(4,.p 2 0),(10,.v (.bool (!(conOk c))))] ?_
 refine kP 10 (!(conOk c)) (fun h2 => ?_) (fun h2 => ?_)
 have h2n := not_t h2
 refine kES [1,2,4,19] [(1,.p 0 0),(2,.p 1 0),(4,.p 2 0),(19,.v (.bool true))] ?_
 show Wk _ _
 try rw [h2]
 exact kF 3 0 [1,2,4,19]
 have h2n := not_f h2
 have h2nc : conOk c = true := (by simpa using h2n)
 have h2nq := conOk_bd h2nc; obtain ⟨h2nq0,h2nq1,h2nq2,h2nq3,h2nq4,h2nq5,h2nq6,h2nq7,h2nq8,h2nq9⟩ := h2nq
 refine kRS 4 [1,2,4,10,14] [(1,.p 0 0),(2,.p 1 0),(4,.p 2 0),(10,.v (.bool false)),(14,.v (.bool (c.state != 1)))] ?_
 refine kP 14 (c.state != 1) (fun h3 => ?_) (fun h3 => ?_)
 have h3p := neT h3
 refine kES [1,2,4,19] [(1,.p 0 0),(2,.p 1 0),(4,.p 2 0),(19,.v (.bool (c.state != 4)))] ?_
 show Wk _ _
 try rw [h2]
 try rw [h3]
 exact kF 3 0 [1,2,4,19]
 have h3p := neF h3
 refine kES [1,2,4,19] [(1,.p 0 0),(2,.p 1 0),(4,.p 2 0),(19,.v (.bool false))] ?_
 show Wk _ _
 try rw [h2]
 try rw [h3]
 exact kF 3 0 [1,2,4,19]
 refine kC ((!(conOk c)) || ((c.state != 1) && (c.state != 4))) (fun h4 => ?_) (fun h4 => ?_)
 refine kQ ?_
 refine kHS 1 [2,20] [(2,.p 1 0),(20,.v (.agg (conL c (.slice v1a c.r.held.length v1c)).toArray))] rfl (hv_build (e := 50) (K := 13) (bytes := 104) [] rfl (by kernel_rfl) (by kernel_rfl) (by kernel_rfl) (by kernel_rfl) (by kernel_rfl) (rs := ([] : List Seg).map segCells) rfl) ?_
 intro g5
 refine kEF [2,3] ⟨[(2,.p 1 0),(3,.v (.slice (some ⟨g5,0,none⟩) 0 0))],[⟨44,conL c (.slice Z c.r.held.length Y)⟩,⟨44,conL c (.slice v1a c.r.held.length v1c)⟩,⟨44,conL c (.slice v1a c.r.held.length v1c)⟩],[],[rowF w.heap.size 50 13 (.slice (some ⟨g5,0,none⟩) 0 0) (([] : List Seg).map segCells),ownF w.heap.size (.slice v1a c.r.held.length v1c) 2 (c.r.held.map pC),slF (.slice Z c.r.held.length Y) 2 (c.r.held.map pC)]⟩ ?_
 refine kR ?_
 have hmod : shut c = (c,([] : List Seg)) := by first | rfl | (simp [shut, *]; done) | grind [shut]
 exact ⟨[.agg (conL c (.slice v1a c.r.held.length v1c)).toArray,.slice (some ⟨g5,0,none⟩) 0 0],by kernel_rfl,fun w' hb hf ha => by rw [hmod]; exact xo2 ((v1a,v1c),(((some ⟨g5,0,none⟩) : Option Addr),0)) rfl rfl (pO (hf _ m1) hB) (pR (hf _ m0) hB) (Apart.sub2 ha (i := 1) (j := 0) rfl rfl (by decide) rfl (fun b h => h) (fun b h => rowF_blk h)) hb⟩
 have h4l := or_l h4
 have h4ln := not_f h4l
 have h4lnc : conOk c = true := (by simpa using h4ln)
 have h4lnq := conOk_bd h4lnc; obtain ⟨h4lnq0,h4lnq1,h4lnq2,h4lnq3,h4lnq4,h4lnq5,h4lnq6,h4lnq7,h4lnq8,h4lnq9⟩ := h4lnq
 have h4r := or_r h4
 refine kK ?_
 refine kQ ?_
 refine kEF [1,2,4] ⟨[(1,.p 0 0),(2,.p 1 0),(4,.p 2 0)],[⟨44,conL c (.slice Z c.r.held.length Y)⟩,⟨44,conZ⟩,⟨44,conL { c with s := { c.s with fin := true } } (.slice v1a c.r.held.length v1c)⟩],[],[ownF w.heap.size (.slice v1a c.r.held.length v1c) 2 (c.r.held.map pC),slF (.slice Z c.r.held.length Y) 2 (c.r.held.map pC)]⟩ ?_
 refine kQ ?_
 refine kEF [1,2,4] ⟨[(1,.p 0 0),(2,.p 1 0),(4,.p 2 0)],[⟨44,conL c (.slice Z c.r.held.length Y)⟩,⟨44,conZ⟩,⟨44,conL { c with state := 2,s := { c.s with fin := true } } (.slice v1a c.r.held.length v1c)⟩],[],[ownF w.heap.size (.slice v1a c.r.held.length v1c) 2 (c.r.held.map pC),slF (.slice Z c.r.held.length Y) 2 (c.r.held.map pC)]⟩ ?_
 refine kS ?_
 refine kQ ?_
 refine kES [2,4,27] [(2,.p 1 0),(4,.p 2 0),(27,.v (.bool (c.state == 4)))] ?_
 refine xw_join ⟨[(2,.p 1 0),(4,.p 2 0)],[⟨44,conL c (.slice Z c.r.held.length Y)⟩,⟨44,conZ⟩,⟨44,conL { c with state := if (c.state == 4) = true then 6 else 2,s := { c.s with fin := true } } (.slice v1a c.r.held.length v1c)⟩],[],[ownF w.heap.size (.slice v1a c.r.held.length v1c) 2 (c.r.held.map pC),slF (.slice Z c.r.held.length Y) 2 (c.r.held.map pC)]⟩ ?_ ?_
 refine kC (c.state == 4) (fun h6 => ?_) (fun h6 => ?_)
 have h6p := eqT h6
 refine kG ?_
 refine kEF [2,4] ⟨[(2,.p 1 0),(4,.p 2 0)],[⟨44,conL c (.slice Z c.r.held.length Y)⟩,⟨44,conZ⟩,⟨44,conL { c with state := 6,s := { c.s with fin := true } } (.slice v1a c.r.held.length v1c)⟩],[],[ownF w.heap.size (.slice v1a c.r.held.length v1c) 2 (c.r.held.map pC),slF (.slice Z c.r.held.length Y) 2 (c.r.held.map pC)]⟩ ?_
 show Wk _ _; rw [h6]; exact kF 3 0 [2,4]
 have h6p := eqF h6
 refine kK ?_
 show Wk _ _; rw [h6]; exact kF 3 0 [2,4]
 refine kQ ?_
 refine kCS 3 [2,29,31] [(2,.p 1 0),(29,.v (.agg (conL { c with state := if (c.state == 4) = true then 6 else 2,s := { c.s with fin := true } } (.slice v1a c.r.held.length v1c)).toArray)),(31,.v (.int .i64 c.window))] 36 [.agg (conL { c with state := if (c.state == 4) = true then 6 else 2,s := { c.s with fin := true } } (.slice v1a c.r.held.length v1c)).toArray,.int .i64 c.window] (some 32) rfl (xc_r fun ww hw hf => ysPump_c ({ c with state := if (c.state == 4) = true then 6 else 2,s := { c.s with fin := true } }) (.slice v1a c.r.held.length v1c) c.window ww (Own.sl (hf _ m0)) (by assumption) (by assumption) (by omega) (by omega) w.heap.size hw) ?_
 rintro ⟨⟨v7a,v7c⟩,⟨v8a,v8c⟩⟩
 have hbd9 : (pump ({ c with state := if (c.state == 4) = true then 6 else 2,s := { c.s with fin := true } }) c.window).1.r.held.length ≤ 1048576 ∧ (pump ({ c with state := if (c.state == 4) = true then 6 else 2,s := { c.s with fin := true } }) c.window).2.length ≤ 49 := pump_bd _ _  (by omega)
 have hbd9a := hbd9.1; have hbd9b := hbd9.2
 refine kEF [2,3] ⟨[(2,.p 1 0),(3,.v (.slice v8a ((pump ({ c with state := if (c.state == 4) = true then 6 else 2,s := { c.s with fin := true } }) c.window).2.length) v8c))],[⟨44,conL c (.slice Z c.r.held.length Y)⟩,⟨44,conL (pump ({ c with state := if (c.state == 4) = true then 6 else 2,s := { c.s with fin := true } }) c.window).1 (.slice v7a ((pump ({ c with state := if (c.state == 4) = true then 6 else 2,s := { c.s with fin := true } }) c.window).1.r.held.length) v7c)⟩,⟨44,conL { c with state := if (c.state == 4) = true then 6 else 2,s := { c.s with fin := true } } (.slice v1a c.r.held.length v1c)⟩],[],[ownF w.heap.size (.slice v7a ((pump ({ c with state := if (c.state == 4) = true then 6 else 2,s := { c.s with fin := true } }) c.window).1.r.held.length) v7c) 2 ((pump ({ c with state := if (c.state == 4) = true then 6 else 2,s := { c.s with fin := true } }) c.window).1.r.held.map pC),rowF w.heap.size 50 13 (.slice v8a ((pump ({ c with state := if (c.state == 4) = true then 6 else 2,s := { c.s with fin := true } }) c.window).2.length) v8c) ((pump ({ c with state := if (c.state == 4) = true then 6 else 2,s := { c.s with fin := true } }) c.window).2.map segCells),ownF w.heap.size (.slice v1a c.r.held.length v1c) 2 (c.r.held.map pC),slF (.slice Z c.r.held.length Y) 2 (c.r.held.map pC)]⟩ ?_
 refine kR ?_
 have hmod : shut c = (((pump ({ c with state := if (c.state == 4) = true then 6 else 2,s := { c.s with fin := true } }) c.window).1),((pump ({ c with state := if (c.state == 4) = true then 6 else 2,s := { c.s with fin := true } }) c.window).2)) := by first | rfl | (simp [shut, *]; done) | grind [shut]
 exact ⟨[.agg (conL (pump ({ c with state := if (c.state == 4) = true then 6 else 2,s := { c.s with fin := true } }) c.window).1 (.slice v7a ((pump ({ c with state := if (c.state == 4) = true then 6 else 2,s := { c.s with fin := true } }) c.window).1.r.held.length) v7c)).toArray,.slice v8a ((pump ({ c with state := if (c.state == 4) = true then 6 else 2,s := { c.s with fin := true } }) c.window).2.length) v8c],by kernel_rfl,fun w' hb hf ha => by rw [hmod]; exact xo2 ((v7a,v7c),(v8a,v8c)) rfl rfl (pO (hf _ m0) hB) (pR (hf _ m1) hB) (Apart.sub2 ha (i := 0) (j := 1) rfl rfl (by decide) rfl (fun b h => h) (fun b h => rowF_blk h)) hb⟩
theorem ysWrite_c (c : Con) (rV : Value) (text : ByteArray) (w : World) (hZ : Sl w rV 2 (c.r.held.map pC)) (hkn : c.r.held.length ≤ 1048576)(hm : ∀ p ∈ c.r.held, p.text.size ≤ 1048576) (hsz : c.r.data.size ≤ 4611686018427387904) (hts : text.size ≤ 4611686018427387904) (B : Nat) (hB : B ≤ w.heap.size) : Calls Tryz.prog 150 #[.agg (conL c rV).toArray, .string text] w fun e w' => XRs w w' e (α := (Option Addr × Nat) × (Option Addr × Nat)) (fun y => .tuple #[.agg (conL (write c text).1 (.slice y.1.1 ((write c text).1.r.held.length) y.1.2)).toArray, .int .i64 ((write c text).2.1), .slice y.2.1 ((write c text).2.2.length) y.2.2]) (fun y => [ownF B (.slice y.1.1 ((write c text).1.r.held.length) y.1.2) 2 ((write c text).1.r.held.map pC), ownF B (.slice y.2.1 ((write c text).2.2.length) y.2.2) 13 ((write c text).2.2.map segCells)]) := by
 obtain ⟨Z,Y,hY⟩ := hZ.form
 rw [List.length_map] at hY; subst hY
 have hJ := hZ.len; rw [List.length_map] at hJ
 have hqcrh := Sl.capLe hZ
 refine x_callsA (args := [.agg (conL c (.slice Z c.r.held.length Y)).toArray,.string text]) (fn := Tryz.f150) [slF (.slice Z c.r.held.length Y) 2 (c.r.held.map pC)] Tryz.func150 rfl Tryz.ntmps150 rfl (by simp only [List.mem_cons,List.not_mem_nil,or_false,forall_eq_or_imp,forall_eq]; exact ⟨rfl,hZ⟩) ?_
 refine kQ ?_
 refine kEF [1,2,4] ⟨[(1,.v (.string text)),(2,.p 0 0),(4,.p 1 0)],[⟨44,conL c (.slice Z c.r.held.length Y)⟩,⟨44,conZ⟩],[],[slF (.slice Z c.r.held.length Y) 2 (c.r.held.map pC)]⟩ ?_
 refine kQ ?_
 refine kCS 1 [1,2,4,12] [(1,.v (.string text)),(2,.p 0 0),(4,.p 1 0),(12,.v (.agg (conL c (.slice Z c.r.held.length Y)).toArray))] 33 [.agg (conL c (.slice Z c.r.held.length Y)).toArray] (some 13) rfl (xc_r fun ww hw hf => yl19Copy_c c (.slice Z c.r.held.length Y) ww (hf _ m0) (by assumption) w.heap.size hw) ?_
 rintro ⟨v1a,v1c⟩
 refine kEF [1,2,4,7] ⟨[(1,.v (.string text)),(2,.p 0 0),(4,.p 1 0),(7,.p 2 0)],[⟨44,conL c (.slice Z c.r.held.length Y)⟩,⟨44,conZ⟩,⟨44,conL c (.slice v1a c.r.held.length v1c)⟩],[],[ownF w.heap.size (.slice v1a c.r.held.length v1c) 2 (c.r.held.map pC),slF (.slice Z c.r.held.length Y) 2 (c.r.held.map pC)]⟩ ?_
 refine kS ?_
 refine kS ?_
 refine xw_join ⟨[(1,.v (.string text)),(2,.p 0 0),(4,.p 1 0),(7,.p 2 0),(26,.v (.bool ((!(conOk c)) || ((c.state != 1) && (c.state != 4)))))],[⟨44,conL c (.slice Z c.r.held.length Y)⟩,⟨44,conZ⟩,⟨44,conL c (.slice v1a c.r.held.length v1c)⟩],[],[ownF w.heap.size (.slice v1a c.r.held.length v1c) 2 (c.r.held.map pC),slF (.slice Z c.r.held.length Y) 2 (c.r.held.map pC)]⟩ ?_ ?_
 refine kG ?_
 refine kCS 1 [1,2,4,7,14] [(1,.v (.string text)),(2,.p 0 0),(4,.p 1 0),(7,.p 2 0),(14,.v (.agg (conL c (.slice Z c.r.held.length Y)).toArray))] 25 [.agg (conL c (.slice Z c.r.held.length Y)).toArray] (some 15) rfl (xc_b fun ww hf => ysConnOk_c c (.slice Z c.r.held.length Y) ww (hf _ m1) (by assumption) (by omega)) ?_
 intro _
 refine kRS 2 [1,2,4,7,17] [(1,.v (.string text)),(2,.p 0 0),(4,.p 1 0),(7,.p 2 0),(17,.v (.bool (!(conOk c))))] ?_
 refine kP 17 (!(conOk c)) (fun h2 => ?_) (fun h2 => ?_)
 have h2n := not_t h2
 refine kES [1,2,4,7,26] [(1,.v (.string text)),(2,.p 0 0),(4,.p 1 0),(7,.p 2 0),(26,.v (.bool true))] ?_
 show Wk _ _
 try rw [h2]
 exact kF 3 0 [1,2,4,7,26]
 have h2n := not_f h2
 have h2nc : conOk c = true := (by simpa using h2n)
 have h2nq := conOk_bd h2nc; obtain ⟨h2nq0,h2nq1,h2nq2,h2nq3,h2nq4,h2nq5,h2nq6,h2nq7,h2nq8,h2nq9⟩ := h2nq
 refine kRS 4 [1,2,4,7,17,21] [(1,.v (.string text)),(2,.p 0 0),(4,.p 1 0),(7,.p 2 0),(17,.v (.bool false)),(21,.v (.bool (c.state != 1)))] ?_
 refine kP 21 (c.state != 1) (fun h3 => ?_) (fun h3 => ?_)
 have h3p := neT h3
 refine kES [1,2,4,7,26] [(1,.v (.string text)),(2,.p 0 0),(4,.p 1 0),(7,.p 2 0),(26,.v (.bool (c.state != 4)))] ?_
 show Wk _ _
 try rw [h2]
 try rw [h3]
 exact kF 3 0 [1,2,4,7,26]
 have h3p := neF h3
 refine kES [1,2,4,7,26] [(1,.v (.string text)),(2,.p 0 0),(4,.p 1 0),(7,.p 2 0),(26,.v (.bool false))] ?_
 show Wk _ _
 try rw [h2]
 try rw [h3]
 exact kF 3 0 [1,2,4,7,26]
 refine kC ((!(conOk c)) || ((c.state != 1) && (c.state != 4))) (fun h4 => ?_) (fun h4 => ?_)
 refine kQ ?_
 refine kHS 1 [4,27] [(4,.p 1 0),(27,.v (.agg (conL c (.slice v1a c.r.held.length v1c)).toArray))] rfl (hv_build (e := 50) (K := 13) (bytes := 104) [] rfl (by kernel_rfl) (by kernel_rfl) (by kernel_rfl) (by kernel_rfl) (by kernel_rfl) (rs := ([] : List Seg).map segCells) rfl) ?_
 intro g5
 refine kEF [4,5,6] ⟨[(4,.p 1 0),(5,.v (.int .i64 0)),(6,.v (.slice (some ⟨g5,0,none⟩) 0 0))],[⟨44,conL c (.slice Z c.r.held.length Y)⟩,⟨44,conL c (.slice v1a c.r.held.length v1c)⟩,⟨44,conL c (.slice v1a c.r.held.length v1c)⟩],[],[rowF w.heap.size 50 13 (.slice (some ⟨g5,0,none⟩) 0 0) (([] : List Seg).map segCells),ownF w.heap.size (.slice v1a c.r.held.length v1c) 2 (c.r.held.map pC),slF (.slice Z c.r.held.length Y) 2 (c.r.held.map pC)]⟩ ?_
 refine kR ?_
 have hmod : write c text = (c,0,([] : List Seg)) := by first | rfl | (simp [write, *]; done) | grind [write]
 exact ⟨[.agg (conL c (.slice v1a c.r.held.length v1c)).toArray,.int .i64 0,.slice (some ⟨g5,0,none⟩) 0 0],by kernel_rfl,fun w' hb hf ha => by rw [hmod]; exact xo2 ((v1a,v1c),(((some ⟨g5,0,none⟩) : Option Addr),0)) rfl rfl (pO (hf _ m1) hB) (pR (hf _ m0) hB) (Apart.sub2 ha (i := 1) (j := 0) rfl rfl (by decide) rfl (fun b h => h) (fun b h => rowF_blk h)) hb⟩
 have h4l := or_l h4
 have h4ln := not_f h4l
 have h4lnc : conOk c = true := (by simpa using h4ln)
 have h4lnq := conOk_bd h4lnc; obtain ⟨h4lnq0,h4lnq1,h4lnq2,h4lnq3,h4lnq4,h4lnq5,h4lnq6,h4lnq7,h4lnq8,h4lnq9⟩ := h4lnq
 have h4r := or_r h4
 refine kK ?_
 refine kQ ?_
 refine kCS 3 [4,7,31,32] [(4,.p 1 0),(7,.p 2 0),(31,.v (.agg (sndL c.s).toArray)),(32,.v (.string text))] 163 [.agg (sndL c.s).toArray,.string text] (some 33) rfl (xc_b fun ww hf => ysQueued_c c.s text ww  (by first | omega | (rw [bstr_size]; omega))) ?_
 intro _
 refine kEF [4,7,8,9] ⟨[(4,.p 1 0),(7,.p 2 0),(8,.p 3 0),(9,.v (.int .i64 ((queued c.s text).2)))],[⟨44,conL c (.slice Z c.r.held.length Y)⟩,⟨44,conZ⟩,⟨44,conL c (.slice v1a c.r.held.length v1c)⟩,⟨38,sndL (queued c.s text).1⟩],[],[ownF w.heap.size (.slice v1a c.r.held.length v1c) 2 (c.r.held.map pC),slF (.slice Z c.r.held.length Y) 2 (c.r.held.map pC)]⟩ ?_
 refine kQ ?_
 refine kEF [4,7,9] ⟨[(4,.p 1 0),(7,.p 2 0),(9,.v (.int .i64 ((queued c.s text).2)))],[⟨44,conL c (.slice Z c.r.held.length Y)⟩,⟨44,conZ⟩,⟨44,conL { c with s := (queued c.s text).1 } (.slice v1a c.r.held.length v1c)⟩,⟨38,sndL (queued c.s text).1⟩],[],[ownF w.heap.size (.slice v1a c.r.held.length v1c) 2 (c.r.held.map pC),slF (.slice Z c.r.held.length Y) 2 (c.r.held.map pC)]⟩ ?_
 refine kQ ?_
 refine kCS 3 [4,9,39,41] [(4,.p 1 0),(9,.v (.int .i64 ((queued c.s text).2))),(39,.v (.agg (conL { c with s := (queued c.s text).1 } (.slice v1a c.r.held.length v1c)).toArray)),(41,.v (.int .i64 c.window))] 36 [.agg (conL { c with s := (queued c.s text).1 } (.slice v1a c.r.held.length v1c)).toArray,.int .i64 c.window] (some 42) rfl (xc_r fun ww hw hf => ysPump_c ({ c with s := (queued c.s text).1 }) (.slice v1a c.r.held.length v1c) c.window ww (Own.sl (hf _ m0)) (by assumption) (by assumption) (by omega) (by omega) w.heap.size hw) ?_
 rintro ⟨⟨v6a,v6c⟩,⟨v7a,v7c⟩⟩
 have hbd8 : (pump ({ c with s := (queued c.s text).1 }) c.window).1.r.held.length ≤ 1048576 ∧ (pump ({ c with s := (queued c.s text).1 }) c.window).2.length ≤ 49 := pump_bd _ _  (by omega)
 have hbd8a := hbd8.1; have hbd8b := hbd8.2
 refine kEF [4,9,10,11] ⟨[(4,.p 1 0),(9,.v (.int .i64 ((queued c.s text).2))),(10,.p 4 0),(11,.v (.slice v7a ((pump ({ c with s := (queued c.s text).1 }) c.window).2.length) v7c))],[⟨44,conL c (.slice Z c.r.held.length Y)⟩,⟨44,conZ⟩,⟨44,conL { c with s := (queued c.s text).1 } (.slice v1a c.r.held.length v1c)⟩,⟨38,sndL (queued c.s text).1⟩,⟨44,conL (pump ({ c with s := (queued c.s text).1 }) c.window).1 (.slice v6a ((pump ({ c with s := (queued c.s text).1 }) c.window).1.r.held.length) v6c)⟩],[],[ownF w.heap.size (.slice v6a ((pump ({ c with s := (queued c.s text).1 }) c.window).1.r.held.length) v6c) 2 ((pump ({ c with s := (queued c.s text).1 }) c.window).1.r.held.map pC),rowF w.heap.size 50 13 (.slice v7a ((pump ({ c with s := (queued c.s text).1 }) c.window).2.length) v7c) ((pump ({ c with s := (queued c.s text).1 }) c.window).2.map segCells),ownF w.heap.size (.slice v1a c.r.held.length v1c) 2 (c.r.held.map pC),slF (.slice Z c.r.held.length Y) 2 (c.r.held.map pC)]⟩ ?_
 refine kQ ?_
 refine kEF [4,5,6] ⟨[(4,.p 1 0),(5,.v (.int .i64 ((queued c.s text).2))),(6,.v (.slice v7a ((pump ({ c with s := (queued c.s text).1 }) c.window).2.length) v7c))],[⟨44,conL c (.slice Z c.r.held.length Y)⟩,⟨44,conL (pump ({ c with s := (queued c.s text).1 }) c.window).1 (.slice v6a ((pump ({ c with s := (queued c.s text).1 }) c.window).1.r.held.length) v6c)⟩,⟨44,conL { c with s := (queued c.s text).1 } (.slice v1a c.r.held.length v1c)⟩,⟨38,sndL (queued c.s text).1⟩,⟨44,conL (pump ({ c with s := (queued c.s text).1 }) c.window).1 (.slice v6a ((pump ({ c with s := (queued c.s text).1 }) c.window).1.r.held.length) v6c)⟩],[],[ownF w.heap.size (.slice v6a ((pump ({ c with s := (queued c.s text).1 }) c.window).1.r.held.length) v6c) 2 ((pump ({ c with s := (queued c.s text).1 }) c.window).1.r.held.map pC),rowF w.heap.size 50 13 (.slice v7a ((pump ({ c with s := (queued c.s text).1 }) c.window).2.length) v7c) ((pump ({ c with s := (queued c.s text).1 }) c.window).2.map segCells),ownF w.heap.size (.slice v1a c.r.held.length v1c) 2 (c.r.held.map pC),slF (.slice Z c.r.held.length Y) 2 (c.r.held.map pC)]⟩ ?_
 refine kR ?_
 have hmod : write c text = (((pump ({ c with s := (queued c.s text).1 }) c.window).1),((queued c.s text).2),((pump ({ c with s := (queued c.s text).1 }) c.window).2)) := by first | rfl | (simp [write, *]; done) | grind [write]
 exact ⟨[.agg (conL (pump ({ c with s := (queued c.s text).1 }) c.window).1 (.slice v6a ((pump ({ c with s := (queued c.s text).1 }) c.window).1.r.held.length) v6c)).toArray,.int .i64 ((queued c.s text).2),.slice v7a ((pump ({ c with s := (queued c.s text).1 }) c.window).2.length) v7c],by kernel_rfl,fun w' hb hf ha => by rw [hmod]; exact xo2 ((v6a,v6c),(v7a,v7c)) rfl rfl (pO (hf _ m0) hB) (pR (hf _ m1) hB) (Apart.sub2 ha (i := 0) (j := 1) rfl rfl (by decide) rfl (fun b h => h) (fun b h => rowF_blk h)) hb⟩
theorem ysTickConn_c (c : Con) (rV : Value) (w : World) (hZ : Sl w rV 2 (c.r.held.map pC)) (hkn : c.r.held.length ≤ 1048576)(hm : ∀ p ∈ c.r.held, p.text.size ≤ 1048576) (hsz : c.r.data.size ≤ 4611686018427387904) (B : Nat) (hB : B ≤ w.heap.size) : Calls Tryz.prog 152 #[.agg (conL c rV).toArray] w fun e w' => XRs w w' e (α := (Option Addr × Nat) × (Option Addr × Nat)) (fun y => .tuple #[.agg (conL (tickConn c).1 (.slice y.1.1 ((tickConn c).1.r.held.length) y.1.2)).toArray, .slice y.2.1 ((tickConn c).2.length) y.2.2]) (fun y => [ownF B (.slice y.1.1 ((tickConn c).1.r.held.length) y.1.2) 2 ((tickConn c).1.r.held.map pC), ownF B (.slice y.2.1 ((tickConn c).2.length) y.2.2) 13 ((tickConn c).2.map segCells)]) := by
 obtain ⟨Z,Y,hY⟩ := hZ.form
 rw [List.length_map] at hY; subst hY
 have hJ := hZ.len; rw [List.length_map] at hJ
 have hqcrh := Sl.capLe hZ
 refine x_callsA (args := [.agg (conL c (.slice Z c.r.held.length Y)).toArray]) (fn := Tryz.f152) [slF (.slice Z c.r.held.length Y) 2 (c.r.held.map pC)] Tryz.func152 rfl Tryz.ntmps152 rfl (by simp only [List.mem_cons,List.not_mem_nil,or_false,forall_eq_or_imp,forall_eq]; exact ⟨rfl,hZ⟩) ?_
 refine kQ ?_
 refine kEF [1,2] ⟨[(1,.p 0 0),(2,.p 1 0)],[⟨44,conL c (.slice Z c.r.held.length Y)⟩,⟨44,conZ⟩],[],[slF (.slice Z c.r.held.length Y) 2 (c.r.held.map pC)]⟩ ?_
 refine kQ ?_
 refine kCD 1 [1,2,9] [(9,.v (.agg (conL c (.slice Z c.r.held.length Y)).toArray))] 33 [.agg (conL c (.slice Z c.r.held.length Y)).toArray] (some 10) rfl (xc_r fun ww hw hf => yl19Copy_c c (.slice Z c.r.held.length Y) ww (hf _ m0) (by assumption) w.heap.size hw) ?_
 rintro ⟨v1a,v1c⟩
 refine kEA [1,2,4] [(4,.p 2 0)] [⟨44,conL c (.slice v1a c.r.held.length v1c)⟩] ?_
 refine kQ ?_
 refine kHD 0 [1,2,4] [] rfl (hv_build (e := 50) (K := 13) (bytes := 104) [] rfl (by kernel_rfl) (by kernel_rfl) (by kernel_rfl) (by kernel_rfl) (by kernel_rfl) (rs := ([] : List Seg).map segCells) rfl) ?_
 intro g2
 refine kED [1,2,4,5] [(5,.v (.slice (some ⟨g2,0,none⟩) 0 0))] ?_
 refine kS ?_
 refine kQ ?_
 refine kCD 1 [1,2,4,5,12] [(12,.v (.agg (conL c (.slice Z c.r.held.length Y)).toArray))] 164 [.agg (conL c (.slice Z c.r.held.length Y)).toArray] (some 13) rfl (xc_b fun ww hf => ysWaits_c c (.slice Z c.r.held.length Y) ww (hf _ m2) (by assumption) (by omega)) ?_
 intro _
 refine kED [1,2,4,5,14] [(14,.v (.bool (!(waits c))))] ?_
 refine kC (!(waits c)) (fun h3 => ?_) (fun h3 => ?_)
 have h3n := not_t h3
 refine kS ?_
 refine kQ ?_
 refine kCD 1 [2,4,5,15] [(15,.v (.agg (conL c (.slice Z c.r.held.length Y)).toArray))] 25 [.agg (conL c (.slice Z c.r.held.length Y)).toArray] (some 16) rfl (xc_b fun ww hf => ysConnOk_c c (.slice Z c.r.held.length Y) ww (hf _ m2) (by assumption) (by omega)) ?_
 intro _
 refine kED [2,4,5,16] [] ?_
 refine kC (conOk c) (fun h4 => ?_) (fun h4 => ?_)
 have h4c : conOk c = true := (by simpa using h4)
 have h4q := conOk_bd h4c; obtain ⟨h4q0,h4q1,h4q2,h4q3,h4q4,h4q5,h4q6,h4q7,h4q8,h4q9⟩ := h4q
 refine kQ ?_
 refine kEU [2,4,5] [] 2 ⟨44,conL { c with timer := 0 } (.slice v1a c.r.held.length v1c)⟩ ?_
 refine kG ?_
 refine kEU [2,4,5] [] 2 ⟨44,conL { c with timer := 0,tries := 0 } (.slice v1a c.r.held.length v1c)⟩ ?_
 refine kQ ?_
 refine kEF [2,3] ⟨[(2,.p 1 0),(3,.v (.slice (some ⟨g2,0,none⟩) 0 0))],[⟨44,conL c (.slice Z c.r.held.length Y)⟩,⟨44,conL { c with timer := 0,tries := 0 } (.slice v1a c.r.held.length v1c)⟩,⟨44,conL { c with timer := 0,tries := 0 } (.slice v1a c.r.held.length v1c)⟩],[],[rowF w.heap.size 50 13 (.slice (some ⟨g2,0,none⟩) 0 0) (([] : List Seg).map segCells),ownF w.heap.size (.slice v1a c.r.held.length v1c) 2 (c.r.held.map pC),slF (.slice Z c.r.held.length Y) 2 (c.r.held.map pC)]⟩ ?_
 refine kR ?_
 have hmod : tickConn c = (({ c with timer := 0,tries := 0 }),([] : List Seg)) := by first | rfl | (simp [tickConn,ackOf, *]; done) | (simp [tickConn,ackOf, *]; omega) | grind [tickConn,ackOf]
 exact ⟨[.agg (conL { c with timer := 0,tries := 0 } (.slice v1a c.r.held.length v1c)).toArray,.slice (some ⟨g2,0,none⟩) 0 0],by kernel_rfl,fun w' hb hf ha => by rw [hmod]; exact xo2 ((v1a,v1c),(((some ⟨g2,0,none⟩) : Option Addr),0)) rfl rfl (pO (hf _ m1) hB) (pR (hf _ m0) hB) (Apart.sub2 ha (i := 1) (j := 0) rfl rfl (by decide) rfl (fun b h => h) (fun b h => rowF_blk h)) hb⟩
 refine kK ?_
 refine kQ ?_
 refine kEU [2,3] [(3,.v (.slice (some ⟨g2,0,none⟩) 0 0))] 1 ⟨44,conL c (.slice v1a c.r.held.length v1c)⟩ ?_
 refine kR ?_
 have hmod : tickConn c = (c,([] : List Seg)) := by first | rfl | (simp [tickConn,ackOf, *]; done) | (simp [tickConn,ackOf, *]; omega) | grind [tickConn,ackOf]
 exact ⟨[.agg (conL c (.slice v1a c.r.held.length v1c)).toArray,.slice (some ⟨g2,0,none⟩) 0 0],by kernel_rfl,fun w' hb hf ha => by rw [hmod]; exact xo2 ((v1a,v1c),(((some ⟨g2,0,none⟩) : Option Addr),0)) rfl rfl (pO (hf _ m1) hB) (pR (hf _ m0) hB) (Apart.sub2 ha (i := 1) (j := 0) rfl rfl (by decide) rfl (fun b h => h) (fun b h => rowF_blk h)) hb⟩
 have h3n := not_f h3
 have h3nc : conOk c = true := waits_ok (by simpa using h3n)
 have h3nq := conOk_bd h3nc; obtain ⟨h3nq0,h3nq1,h3nq2,h3nq3,h3nq4,h3nq5,h3nq6,h3nq7,h3nq8,h3nq9⟩ := h3nq
 refine kK ?_
 refine kS ?_
 refine kQ ?_
 refine kED [1,2,4,5,23] [(23,.v (.bool (c.timer == 0)))] ?_
 refine kC (c.timer == 0) (fun h5 => ?_) (fun h5 => ?_)
 have h5p := eqT h5
 refine kQ ?_
 refine kEU [1,2,4,5] [] 2 ⟨44,conL { c with timer := 3 } (.slice v1a c.r.held.length v1c)⟩ ?_
 refine kQ ?_
 refine kED [1,2,4,5,27] [(27,.v (.bool (c.state == 7)))] ?_
 refine kC (c.state == 7) (fun h6 => ?_) (fun h6 => ?_)
 have h6p := eqT h6
 refine kG ?_
 refine kEU [1,2,4,5] [] 2 ⟨44,conL { c with timer := 4 } (.slice v1a c.r.held.length v1c)⟩ ?_
 refine kQ ?_
 refine kEF [1,2,4,5] ⟨[(1,.p 0 0),(2,.p 1 0),(4,.p 2 0),(5,.v (.slice (some ⟨g2,0,none⟩) 0 0))],[⟨44,conL c (.slice Z c.r.held.length Y)⟩,⟨44,conZ⟩,⟨44,conL { c with timer := 3 } (.slice v1a c.r.held.length v1c)⟩],[],[rowF w.heap.size 50 13 (.slice (some ⟨g2,0,none⟩) 0 0) (([] : List Seg).map segCells),ownF w.heap.size (.slice v1a c.r.held.length v1c) 2 (c.r.held.map pC),slF (.slice Z c.r.held.length Y) 2 (c.r.held.map pC)]⟩ ?_
 refine kS ?_
 refine kQ ?_
 refine kED [1,2,4,5,35] [(35,.v (.bool true))] ?_
 refine kT ?_
 refine kQ ?_
 refine kEU [2,3] [(3,.v (.slice (some ⟨g2,0,none⟩) 0 0))] 1 ⟨44,conL { c with timer := 3 } (.slice v1a c.r.held.length v1c)⟩ ?_
 refine kR ?_
 have hmod : tickConn c = (({ c with timer := 3 }),([] : List Seg)) := by first | rfl | (simp [tickConn,ackOf, *]; done) | (simp [tickConn,ackOf, *]; omega) | grind [tickConn,ackOf]
 exact ⟨[.agg (conL { c with timer := 3 } (.slice v1a c.r.held.length v1c)).toArray,.slice (some ⟨g2,0,none⟩) 0 0],by kernel_rfl,fun w' hb hf ha => by rw [hmod]; exact xo2 ((v1a,v1c),(((some ⟨g2,0,none⟩) : Option Addr),0)) rfl rfl (pO (hf _ m1) hB) (pR (hf _ m0) hB) (Apart.sub2 ha (i := 1) (j := 0) rfl rfl (by decide) rfl (fun b h => h) (fun b h => rowF_blk h)) hb⟩
 have h6p := eqF h6
 refine kK ?_
 refine kQ ?_
 refine kEU [1,2,4,5] [] 2 ⟨44,conL { c with timer := 2 } (.slice v1a c.r.held.length v1c)⟩ ?_
 refine kS ?_
 refine kQ ?_
 refine kES [1,2,4,5,35] [(1,.p 0 0),(2,.p 1 0),(4,.p 2 0),(5,.v (.slice (some ⟨g2,0,none⟩) 0 0)),(35,.v (.bool true))] ?_
 refine kT ?_
 refine kQ ?_
 refine kEU [2,3] [(3,.v (.slice (some ⟨g2,0,none⟩) 0 0))] 1 ⟨44,conL { c with timer := 2 } (.slice v1a c.r.held.length v1c)⟩ ?_
 refine kR ?_
 have hmod : tickConn c = (({ c with timer := 2 }),([] : List Seg)) := by first | rfl | (simp [tickConn,ackOf, *]; done) | (simp [tickConn,ackOf, *]; omega) | grind [tickConn,ackOf]
 exact ⟨[.agg (conL { c with timer := 2 } (.slice v1a c.r.held.length v1c)).toArray,.slice (some ⟨g2,0,none⟩) 0 0],by kernel_rfl,fun w' hb hf ha => by rw [hmod]; exact xo2 ((v1a,v1c),(((some ⟨g2,0,none⟩) : Option Addr),0)) rfl rfl (pO (hf _ m1) hB) (pR (hf _ m0) hB) (Apart.sub2 ha (i := 1) (j := 0) rfl rfl (by decide) rfl (fun b h => h) (fun b h => rowF_blk h)) hb⟩
 have h5p := eqF h5
 refine kK ?_
 refine kQ ?_
 refine kRB 5 [1,2,4,5] [(1,.p 0 0),(2,.p 1 0),(4,.p 2 0),(5,.v (.slice (some ⟨g2,0,none⟩) 0 0))] [⟨44,conL c (.slice Z c.r.held.length Y)⟩,⟨44,conZ⟩,⟨44,conL { c with timer := IntKind.i64.wrap (c.timer - 1) } (.slice v1a c.r.held.length v1c)⟩] ?_
 refine xl_eq (st' := ⟨[(1,.p 0 0),(2,.p 1 0),(4,.p 2 0),(5,.v (.slice (some ⟨g2,0,none⟩) 0 0))],[⟨44,conL c (.slice Z c.r.held.length Y)⟩,⟨44,conZ⟩,⟨44,conL { c with timer := c.timer - 1 } (.slice v1a c.r.held.length v1c)⟩],[],[rowF w.heap.size 50 13 (.slice (some ⟨g2,0,none⟩) 0 0) (([] : List Seg).map segCells),ownF w.heap.size (.slice v1a c.r.held.length v1c) 2 (c.r.held.map pC),slF (.slice Z c.r.held.length Y) 2 (c.r.held.map pC)]⟩) (by rw [show (IntKind.i64.wrap (c.timer - 1)) = (c.timer - 1) from wrap_id (by omega) (by omega)] <;> rfl) ?_
 refine kED [1,2,4,5] [] ?_
 refine kS ?_
 refine kQ ?_
 refine kED [1,2,4,5,35] [(35,.v (.bool (decide ((c.timer - 1) > 0))))] ?_
 refine kC (decide ((c.timer - 1) > 0)) (fun h7 => ?_) (fun h7 => ?_)
 have h7p := of_decide_eq_true h7
 refine kQ ?_
 refine kEU [2,3] [(3,.v (.slice (some ⟨g2,0,none⟩) 0 0))] 1 ⟨44,conL { c with timer := c.timer - 1 } (.slice v1a c.r.held.length v1c)⟩ ?_
 refine kR ?_
 have hmod : tickConn c = (({ c with timer := c.timer - 1 }),([] : List Seg)) := by first | rfl | (simp [tickConn,ackOf, *]; done) | (simp [tickConn,ackOf, *]; omega) | grind [tickConn,ackOf]
 exact ⟨[.agg (conL { c with timer := c.timer - 1 } (.slice v1a c.r.held.length v1c)).toArray,.slice (some ⟨g2,0,none⟩) 0 0],by kernel_rfl,fun w' hb hf ha => by rw [hmod]; exact xo2 ((v1a,v1c),(((some ⟨g2,0,none⟩) : Option Addr),0)) rfl rfl (pO (hf _ m1) hB) (pR (hf _ m0) hB) (Apart.sub2 ha (i := 1) (j := 0) rfl rfl (by decide) rfl (fun b h => h) (fun b h => rowF_blk h)) hb⟩
 have h7p := of_decide_eq_false h7
 refine kK ?_
 refine kS ?_
 refine kQ ?_
 refine kED [1,2,4,5,40] [(40,.v (.bool (c.state == 7)))] ?_
 refine kC (c.state == 7) (fun h8 => ?_) (fun h8 => ?_)
 have h8p := eqT h8
 refine kQ ?_
 refine kEU [2,4,5] [] 2 ⟨44,conL { c with state := 8,timer := c.timer - 1 } (.slice v1a c.r.held.length v1c)⟩ ?_
 refine kQ ?_
 refine kEU [2,4,5] [] 2 ⟨44,conL { c with state := 8,timer := c.timer - 1,tries := 0 } (.slice v1a c.r.held.length v1c)⟩ ?_
 refine kQ ?_
 refine kEU [2,3] [(3,.v (.slice (some ⟨g2,0,none⟩) 0 0))] 1 ⟨44,conL { c with state := 8,timer := c.timer - 1,tries := 0 } (.slice v1a c.r.held.length v1c)⟩ ?_
 refine kR ?_
 have hmod : tickConn c = (({ c with state := 8,timer := c.timer - 1,tries := 0 }),([] : List Seg)) := by first | rfl | (simp [tickConn,ackOf, *]; done) | (simp [tickConn,ackOf, *]; omega) | grind [tickConn,ackOf]
 exact ⟨[.agg (conL { c with state := 8,timer := c.timer - 1,tries := 0 } (.slice v1a c.r.held.length v1c)).toArray,.slice (some ⟨g2,0,none⟩) 0 0],by kernel_rfl,fun w' hb hf ha => by rw [hmod]; exact xo2 ((v1a,v1c),(((some ⟨g2,0,none⟩) : Option Addr),0)) rfl rfl (pO (hf _ m1) hB) (pR (hf _ m0) hB) (Apart.sub2 ha (i := 1) (j := 0) rfl rfl (by decide) rfl (fun b h => h) (fun b h => rowF_blk h)) hb⟩
 have h8p := eqF h8
 refine kK ?_
 refine kS ?_
 refine kQ ?_
 refine kED [1,2,4,47] [(47,.v (.bool (c.tries == 3)))] ?_
 refine kC (c.tries == 3) (fun h9 => ?_) (fun h9 => ?_)
 have h9p := eqT h9
 refine kQ ?_
 refine kCD 1 [2,4,48] [(48,.v (.agg (conL c (.slice Z c.r.held.length Y)).toArray))] 35 [.agg (conL c (.slice Z c.r.held.length Y)).toArray] (some 49) rfl (xc_b fun ww hf => sAckOf_c c.t.ip c.t.port c.t.my c.state c.s.una c.s.data c.s.sent c.s.fin c.s.finSent c.s.done c.r.next c.r.data c.r.held (.slice Z c.r.held.length Y) c.r.fin c.r.done c.window c.most c.o.mss c.o.scale c.o.sack c.o.stamp c.o.val c.o.echo c.timer c.tries ww (by omega)) ?_
 intro _
 refine kEA [2,4,6] [(6,.p 3 0)] [⟨50,[.int .i64 c.t.my,.int .i64 c.t.port,.int .i64 (nextOf c.s),.int .i64 c.r.next,.int .i64 16,.int .i64 (wO c.r),.int .i64 0,.int .i64 (-1),.bool false,.bool false,.int .i64 0,.int .i64 0,.string (⟨#[]⟩ : ByteArray)]⟩] ?_
 refine kQ ?_
 refine kEU [2,4,6] [] 3 ⟨50,[.int .i64 c.t.my,.int .i64 c.t.port,.int .i64 (nextOf c.s),.int .i64 c.r.next,.int .i64 20,.int .i64 (wO c.r),.int .i64 0,.int .i64 (-1),.bool false,.bool false,.int .i64 0,.int .i64 0,.string (⟨#[]⟩ : ByteArray)]⟩ ?_
 refine kQ ?_
 refine kEU [2,4,6] [] 2 ⟨44,conL { c with state := 8,timer := c.timer - 1 } (.slice v1a c.r.held.length v1c)⟩ ?_
 refine kQ ?_
 refine kEU [2,4,6] [] 2 ⟨44,conL { c with state := 8,timer := c.timer - 1,tries := 0 } (.slice v1a c.r.held.length v1c)⟩ ?_
 refine kS ?_
 refine xw_joinE (α := Nat) (fun y => (fun (g11 : Nat) => (⟨[(2,.p 1 0),(3,.v (.slice (some ⟨g11,0,none⟩) 1 1))],[⟨44,conL c (.slice Z c.r.held.length Y)⟩,⟨44,conL { c with state := 8,timer := c.timer - 1,tries := 0 } (.slice v1a c.r.held.length v1c)⟩,⟨44,conL { c with state := 8,timer := c.timer - 1,tries := 0 } (.slice v1a c.r.held.length v1c)⟩,⟨50,[.int .i64 c.t.my,.int .i64 c.t.port,.int .i64 (nextOf c.s),.int .i64 c.r.next,.int .i64 20,.int .i64 (wO c.r),.int .i64 0,.int .i64 (-1),.bool false,.bool false,.int .i64 0,.int .i64 0,.string (⟨#[]⟩ : ByteArray)]⟩],[],[rowF w.heap.size 50 13 (.slice (some ⟨g11,0,none⟩) 1 1) (([⟨c.t.my,c.t.port,nextOf c.s,c.r.next,20,wO c.r,⟨0,(-1),false,false,0,0⟩,(⟨#[]⟩ : ByteArray)⟩] : List Seg).map segCells),rowF w.heap.size 50 13 (.slice (some ⟨g2,0,none⟩) 0 0) (([] : List Seg).map segCells),ownF w.heap.size (.slice v1a c.r.held.length v1c) 2 (c.r.held.map pC),slF (.slice Z c.r.held.length Y) 2 (c.r.held.map pC)]⟩ : St)) y) ?_ ?_
 refine xe_region0 [true,false,true,true] (by kernel_rfl) (fun ρ σ => ?_)
 refine kTS [0,1] [57,56,2] 3 [(57,.v (.agg #[.int .i64 c.t.my,.int .i64 c.t.port,.int .i64 (nextOf c.s),.int .i64 c.r.next,.int .i64 20,.int .i64 (wO c.r),.int .i64 0,.int .i64 (-1),.bool false,.bool false,.int .i64 0,.int .i64 0,.string (⟨#[]⟩ : ByteArray)])),(56,.v (.agg (conL { c with state := 8,timer := c.timer - 1,tries := 0 } (.slice v1a c.r.held.length v1c)).toArray)),(2,.p 1 0)] ?_
 refine kA [2,3] ⟨?_,?_⟩
 refine kSH 2 rfl (under_t (under_f rfl (under_t (under_t under_nil)))) (hv_build (e := 50) (K := 13) (bytes := 104) [.agg #[.int .i64 c.t.my,.int .i64 c.t.port,.int .i64 (nextOf c.s),.int .i64 c.r.next,.int .i64 20,.int .i64 (wO c.r),.int .i64 0,.int .i64 (-1),.bool false,.bool false,.int .i64 0,.int .i64 0,.string (⟨#[]⟩ : ByteArray)]] rfl (by kernel_rfl) (by kernel_rfl) (by kernel_rfl) (by kernel_rfl) (by kernel_rfl) (rs := ([⟨c.t.my,c.t.port,nextOf c.s,c.r.next,20,wO c.r,⟨0,(-1),false,false,0,0⟩,(⟨#[]⟩ : ByteArray)⟩] : List Seg).map segCells) rfl) ?_
 intro g11
 refine kA [3] ?_
 refine kSS 3 1 0 (conL { c with state := 8,timer := c.timer - 1,tries := 0 } (.slice v1a c.r.held.length v1c)) rfl ?_
 refine kTS [4] [3,2] 0 [(3,.v (.slice (some ⟨g11,0,none⟩) 1 1)),(2,.p 1 0)] ?_
 refine kZ ?_
 exact ⟨(g11),kF 4 0 [2,3]⟩
 refine kSS 3 1 0 (conL { c with state := 8,timer := c.timer - 1,tries := 0 } (.slice v1a c.r.held.length v1c)) rfl ?_
 refine kA [2] ?_
 refine kSH 2 rfl (under_t (under_f rfl (under_t (under_t under_nil)))) (hv_build (e := 50) (K := 13) (bytes := 104) [.agg #[.int .i64 c.t.my,.int .i64 c.t.port,.int .i64 (nextOf c.s),.int .i64 c.r.next,.int .i64 20,.int .i64 (wO c.r),.int .i64 0,.int .i64 (-1),.bool false,.bool false,.int .i64 0,.int .i64 0,.string (⟨#[]⟩ : ByteArray)]] rfl (by kernel_rfl) (by kernel_rfl) (by kernel_rfl) (by kernel_rfl) (by kernel_rfl) (rs := ([⟨c.t.my,c.t.port,nextOf c.s,c.r.next,20,wO c.r,⟨0,(-1),false,false,0,0⟩,(⟨#[]⟩ : ByteArray)⟩] : List Seg).map segCells) rfl) ?_
 intro g13
 refine kTS [4] [3,2] 0 [(3,.v (.slice (some ⟨g13,0,none⟩) 1 1)),(2,.p 1 0)] ?_
 refine kZ ?_
 exact ⟨(g13),kF 4 0 [2,3]⟩
 intro g11
 refine kR ?_
 have hmod : tickConn c = (({ c with state := 8,timer := c.timer - 1,tries := 0 }),([⟨c.t.my,c.t.port,nextOf c.s,c.r.next,20,wO c.r,⟨0,(-1),false,false,0,0⟩,(⟨#[]⟩ : ByteArray)⟩] : List Seg)) := by first | rfl | (simp [tickConn,ackOf, *]; done) | (simp [tickConn,ackOf, *]; omega) | grind [tickConn,ackOf]
 exact ⟨[.agg (conL { c with state := 8,timer := c.timer - 1,tries := 0 } (.slice v1a c.r.held.length v1c)).toArray,.slice (some ⟨g11,0,none⟩) 1 1],by kernel_rfl,fun w' hb hf ha => by rw [hmod]; exact xo2 ((v1a,v1c),(((some ⟨g11,0,none⟩) : Option Addr),1)) rfl rfl (pO (hf _ m2) hB) (pR (hf _ m0) hB) (Apart.sub2 ha (i := 2) (j := 0) rfl rfl (by decide) rfl (fun b h => h) (fun b h => rowF_blk h)) hb⟩
 have h9p := eqF h9
 refine kK ?_
 refine kQ ?_
 refine kRB 5 [1,2,4] [(1,.p 0 0),(2,.p 1 0),(4,.p 2 0)] [⟨44,conL c (.slice Z c.r.held.length Y)⟩,⟨44,conZ⟩,⟨44,conL { c with timer := c.timer - 1,tries := IntKind.i64.wrap (c.tries + 1) } (.slice v1a c.r.held.length v1c)⟩] ?_
 refine xl_eq (st' := ⟨[(1,.p 0 0),(2,.p 1 0),(4,.p 2 0)],[⟨44,conL c (.slice Z c.r.held.length Y)⟩,⟨44,conZ⟩,⟨44,conL { c with timer := c.timer - 1,tries := c.tries + 1 } (.slice v1a c.r.held.length v1c)⟩],[],[rowF w.heap.size 50 13 (.slice (some ⟨g2,0,none⟩) 0 0) (([] : List Seg).map segCells),ownF w.heap.size (.slice v1a c.r.held.length v1c) 2 (c.r.held.map pC),slF (.slice Z c.r.held.length Y) 2 (c.r.held.map pC)]⟩) (by rw [show (IntKind.i64.wrap (c.tries + 1)) = (c.tries + 1) from wrap_id (by omega) (by omega)] <;> rfl) ?_
 refine kED [1,2,4] [] ?_
 refine kQ ?_
 refine kCD 2 [2,4,64] [(64,.v (.agg (sndL c.s).toArray))] 165 [.agg (sndL c.s).toArray] (some 65) rfl (xc_b fun ww hf => sRewound_c c.s.una c.s.data c.s.sent c.s.fin c.s.finSent c.s.done ww ) ?_
 intro _
 refine kEU [2,4] [] 2 ⟨44,conL { c with s := (rewound c.s),timer := c.timer - 1,tries := c.tries + 1 } (.slice v1a c.r.held.length v1c)⟩ ?_
 refine kS ?_
 refine xw_joinE (α := Option Addr × Nat × Option Addr × Nat) (fun y => (fun (v15a : Option Addr) (v15c : Nat) (v14a : Option Addr) (v14c : Nat) => (⟨[(2,.p 1 0),(7,.p 3 0),(8,.v (.slice v15a ((pump ({ c with s := (rewound c.s),timer := c.timer - 1,tries := c.tries + 1 }) (max 1 c.window)).2.length) v15c))],[⟨44,conL c (.slice Z c.r.held.length Y)⟩,⟨44,conZ⟩,⟨44,conL { c with s := (rewound c.s),timer := c.timer - 1,tries := c.tries + 1 } (.slice v1a c.r.held.length v1c)⟩,⟨44,conL (pump ({ c with s := (rewound c.s),timer := c.timer - 1,tries := c.tries + 1 }) (max 1 c.window)).1 (.slice v14a ((pump ({ c with s := (rewound c.s),timer := c.timer - 1,tries := c.tries + 1 }) (max 1 c.window)).1.r.held.length) v14c)⟩],[],[ownF w.heap.size (.slice v14a ((pump ({ c with s := (rewound c.s),timer := c.timer - 1,tries := c.tries + 1 }) (max 1 c.window)).1.r.held.length) v14c) 2 ((pump ({ c with s := (rewound c.s),timer := c.timer - 1,tries := c.tries + 1 }) (max 1 c.window)).1.r.held.map pC),rowF w.heap.size 50 13 (.slice v15a ((pump ({ c with s := (rewound c.s),timer := c.timer - 1,tries := c.tries + 1 }) (max 1 c.window)).2.length) v15c) ((pump ({ c with s := (rewound c.s),timer := c.timer - 1,tries := c.tries + 1 }) (max 1 c.window)).2.map segCells),rowF w.heap.size 50 13 (.slice (some ⟨g2,0,none⟩) 0 0) (([] : List Seg).map segCells),ownF w.heap.size (.slice v1a c.r.held.length v1c) 2 (c.r.held.map pC),slF (.slice Z c.r.held.length Y) 2 (c.r.held.map pC)]⟩ : St)) y.1 y.2.1 y.2.2.1 y.2.2.2) ?_ ?_
 refine xe_region [] (by kernel_rfl) (fun ρ σ => ?_)
 refine kTS [0,1,2] [70,68,2] 8 [(70,.v (.int .i64 c.window)),(68,.v (.agg (conL { c with s := (rewound c.s),timer := c.timer - 1,tries := c.tries + 1 } (.slice v1a c.r.held.length v1c)).toArray)),(2,.p 1 0)] ?_
 refine kA [3,8] ⟨?_,?_⟩
 refine kSC 3 76 [.int .i64 1,.int .i64 c.window] (some 71) rfl (xc_s fun ww hf => l1Max_c 1 c.window ww ) ?_
 intro _
 refine kA [4,8] ⟨?_,?_⟩
 refine kSC 4 36 [.agg (conL { c with s := (rewound c.s),timer := c.timer - 1,tries := c.tries + 1 } (.slice v1a c.r.held.length v1c)).toArray,.int .i64 (max 1 c.window)] (some 72) rfl (xc_r fun ww hw hf => ysPump_c ({ c with s := (rewound c.s),timer := c.timer - 1,tries := c.tries + 1 }) (.slice v1a c.r.held.length v1c) (max 1 c.window) ww (Own.sl (hf _ m1)) (by assumption) (by assumption) (by omega) (by omega) w.heap.size hw) ?_
 rintro ⟨⟨v14a,v14c⟩,⟨v15a,v15c⟩⟩
 have hbd16 : (pump ({ c with s := (rewound c.s),timer := c.timer - 1,tries := c.tries + 1 }) (max 1 c.window)).1.r.held.length ≤ 1048576 ∧ (pump ({ c with s := (rewound c.s),timer := c.timer - 1,tries := c.tries + 1 }) (max 1 c.window)).2.length ≤ 49 := pump_bd _ _  (by omega)
 have hbd16a := hbd16.1; have hbd16b := hbd16.2
 refine kTS [5,6,7] [74,73,2] 3 [(74,.v (.slice v15a ((pump ({ c with s := (rewound c.s),timer := c.timer - 1,tries := c.tries + 1 }) (max 1 c.window)).2.length) v15c)),(73,.v (.agg (conL (pump ({ c with s := (rewound c.s),timer := c.timer - 1,tries := c.tries + 1 }) (max 1 c.window)).1 (.slice v14a ((pump ({ c with s := (rewound c.s),timer := c.timer - 1,tries := c.tries + 1 }) (max 1 c.window)).1.r.held.length) v14c)).toArray)),(2,.p 1 0)] ?_
 refine kA [8] ?_
 refine xs_box 8 ⟨44,conZ⟩ _ rfl (by kernel_rfl) (by kernel_rfl) (by kernel_rfl) (by kernel_rfl) rfl ?_
 refine kA [9] ?_
 refine kSS 9 3 0 (conL (pump ({ c with s := (rewound c.s),timer := c.timer - 1,tries := c.tries + 1 }) (max 1 c.window)).1 (.slice v14a ((pump ({ c with s := (rewound c.s),timer := c.timer - 1,tries := c.tries + 1 }) (max 1 c.window)).1.r.held.length) v14c)) rfl ?_
 refine kTS [10] [8,7,2] 0 [(8,.v (.slice v15a ((pump ({ c with s := (rewound c.s),timer := c.timer - 1,tries := c.tries + 1 }) (max 1 c.window)).2.length) v15c)),(7,.p 3 0),(2,.p 1 0)] ?_
 refine kZ ?_
 exact ⟨(v15a,v15c,v14a,v14c),kF 4 0 [2,7,8]⟩
 refine xs_box 8 ⟨44,conZ⟩ _ rfl (by kernel_rfl) (by kernel_rfl) (by kernel_rfl) (by kernel_rfl) rfl ?_
 refine kA [4] ?_
 refine kSC 4 36 [.agg (conL { c with s := (rewound c.s),timer := c.timer - 1,tries := c.tries + 1 } (.slice v1a c.r.held.length v1c)).toArray,.int .i64 (max 1 c.window)] (some 72) rfl (xc_r fun ww hw hf => ysPump_c ({ c with s := (rewound c.s),timer := c.timer - 1,tries := c.tries + 1 }) (.slice v1a c.r.held.length v1c) (max 1 c.window) ww (Own.sl (hf _ m1)) (by assumption) (by assumption) (by omega) (by omega) w.heap.size hw) ?_
 rintro ⟨⟨v17a,v17c⟩,⟨v18a,v18c⟩⟩
 have hbd19 : (pump ({ c with s := (rewound c.s),timer := c.timer - 1,tries := c.tries + 1 }) (max 1 c.window)).1.r.held.length ≤ 1048576 ∧ (pump ({ c with s := (rewound c.s),timer := c.timer - 1,tries := c.tries + 1 }) (max 1 c.window)).2.length ≤ 49 := pump_bd _ _  (by omega)
 have hbd19a := hbd19.1; have hbd19b := hbd19.2
 refine kTS [5,6,7] [74,73,7,2] 2 [(74,.v (.slice v18a ((pump ({ c with s := (rewound c.s),timer := c.timer - 1,tries := c.tries + 1 }) (max 1 c.window)).2.length) v18c)),(73,.v (.agg (conL (pump ({ c with s := (rewound c.s),timer := c.timer - 1,tries := c.tries + 1 }) (max 1 c.window)).1 (.slice v17a ((pump ({ c with s := (rewound c.s),timer := c.timer - 1,tries := c.tries + 1 }) (max 1 c.window)).1.r.held.length) v17c)).toArray)),(7,.p 3 0),(2,.p 1 0)] ?_
 refine kA [9] ?_
 refine kSS 9 3 0 (conL (pump ({ c with s := (rewound c.s),timer := c.timer - 1,tries := c.tries + 1 }) (max 1 c.window)).1 (.slice v17a ((pump ({ c with s := (rewound c.s),timer := c.timer - 1,tries := c.tries + 1 }) (max 1 c.window)).1.r.held.length) v17c)) rfl ?_
 refine kTS [10] [8,7,2] 0 [(8,.v (.slice v18a ((pump ({ c with s := (rewound c.s),timer := c.timer - 1,tries := c.tries + 1 }) (max 1 c.window)).2.length) v18c)),(7,.p 3 0),(2,.p 1 0)] ?_
 refine kZ ?_
 exact ⟨(v18a,v18c,v17a,v17c),kF 4 0 [2,7,8]⟩
 refine xs_box 8 ⟨44,conZ⟩ _ rfl (by kernel_rfl) (by kernel_rfl) (by kernel_rfl) (by kernel_rfl) rfl ?_
 refine kA [3] ?_
 refine kSC 3 76 [.int .i64 1,.int .i64 c.window] (some 71) rfl (xc_s fun ww hf => l1Max_c 1 c.window ww ) ?_
 intro _
 refine kA [4] ?_
 refine kSC 4 36 [.agg (conL { c with s := (rewound c.s),timer := c.timer - 1,tries := c.tries + 1 } (.slice v1a c.r.held.length v1c)).toArray,.int .i64 (max 1 c.window)] (some 72) rfl (xc_r fun ww hw hf => ysPump_c ({ c with s := (rewound c.s),timer := c.timer - 1,tries := c.tries + 1 }) (.slice v1a c.r.held.length v1c) (max 1 c.window) ww (Own.sl (hf _ m1)) (by assumption) (by assumption) (by omega) (by omega) w.heap.size hw) ?_
 rintro ⟨⟨v20a,v20c⟩,⟨v21a,v21c⟩⟩
 have hbd22 : (pump ({ c with s := (rewound c.s),timer := c.timer - 1,tries := c.tries + 1 }) (max 1 c.window)).1.r.held.length ≤ 1048576 ∧ (pump ({ c with s := (rewound c.s),timer := c.timer - 1,tries := c.tries + 1 }) (max 1 c.window)).2.length ≤ 49 := pump_bd _ _  (by omega)
 have hbd22a := hbd22.1; have hbd22b := hbd22.2
 refine kTS [5,6,7] [74,73,7,2] 2 [(74,.v (.slice v21a ((pump ({ c with s := (rewound c.s),timer := c.timer - 1,tries := c.tries + 1 }) (max 1 c.window)).2.length) v21c)),(73,.v (.agg (conL (pump ({ c with s := (rewound c.s),timer := c.timer - 1,tries := c.tries + 1 }) (max 1 c.window)).1 (.slice v20a ((pump ({ c with s := (rewound c.s),timer := c.timer - 1,tries := c.tries + 1 }) (max 1 c.window)).1.r.held.length) v20c)).toArray)),(7,.p 3 0),(2,.p 1 0)] ?_
 refine kA [9] ?_
 refine kSS 9 3 0 (conL (pump ({ c with s := (rewound c.s),timer := c.timer - 1,tries := c.tries + 1 }) (max 1 c.window)).1 (.slice v20a ((pump ({ c with s := (rewound c.s),timer := c.timer - 1,tries := c.tries + 1 }) (max 1 c.window)).1.r.held.length) v20c)) rfl ?_
 refine kTS [10] [8,7,2] 0 [(8,.v (.slice v21a ((pump ({ c with s := (rewound c.s),timer := c.timer - 1,tries := c.tries + 1 }) (max 1 c.window)).2.length) v21c)),(7,.p 3 0),(2,.p 1 0)] ?_
 refine kZ ?_
 exact ⟨(v21a,v21c,v20a,v20c),kF 4 0 [2,7,8]⟩
 rintro ⟨v15a,v15c,v14a,v14c⟩
 refine kQ ?_
 refine kEF [2,7,8] ⟨[(2,.p 1 0),(7,.p 3 0),(8,.v (.slice v15a ((pump ({ c with s := (rewound c.s),timer := c.timer - 1,tries := c.tries + 1 }) (max 1 c.window)).2.length) v15c))],[⟨44,conL c (.slice Z c.r.held.length Y)⟩,⟨44,conZ⟩,⟨44,conL { c with s := (rewound c.s),timer := c.timer - 1,tries := c.tries + 1 } (.slice v1a c.r.held.length v1c)⟩,⟨44,conL { (pump ({ c with s := (rewound c.s),timer := c.timer - 1,tries := c.tries + 1 }) (max 1 c.window)).1 with timer := 3 } (.slice v14a ((pump ({ c with s := (rewound c.s),timer := c.timer - 1,tries := c.tries + 1 }) (max 1 c.window)).1.r.held.length) v14c)⟩],[],[ownF w.heap.size (.slice v14a ((pump ({ c with s := (rewound c.s),timer := c.timer - 1,tries := c.tries + 1 }) (max 1 c.window)).1.r.held.length) v14c) 2 ((pump ({ c with s := (rewound c.s),timer := c.timer - 1,tries := c.tries + 1 }) (max 1 c.window)).1.r.held.map pC),rowF w.heap.size 50 13 (.slice v15a ((pump ({ c with s := (rewound c.s),timer := c.timer - 1,tries := c.tries + 1 }) (max 1 c.window)).2.length) v15c) ((pump ({ c with s := (rewound c.s),timer := c.timer - 1,tries := c.tries + 1 }) (max 1 c.window)).2.map segCells),rowF w.heap.size 50 13 (.slice (some ⟨g2,0,none⟩) 0 0) (([] : List Seg).map segCells),ownF w.heap.size (.slice v1a c.r.held.length v1c) 2 (c.r.held.map pC),slF (.slice Z c.r.held.length Y) 2 (c.r.held.map pC)]⟩ ?_
 refine kQ ?_
 refine kEU [2,3] [(3,.v (.slice v15a ((pump ({ c with s := (rewound c.s),timer := c.timer - 1,tries := c.tries + 1 }) (max 1 c.window)).2.length) v15c))] 1 ⟨44,conL { (pump ({ c with s := (rewound c.s),timer := c.timer - 1,tries := c.tries + 1 }) (max 1 c.window)).1 with timer := 3 } (.slice v14a ((pump ({ c with s := (rewound c.s),timer := c.timer - 1,tries := c.tries + 1 }) (max 1 c.window)).1.r.held.length) v14c)⟩ ?_
 refine kR ?_
 have hmod : tickConn c = (({ (pump ({ c with s := (rewound c.s),timer := c.timer - 1,tries := c.tries + 1 }) (max 1 c.window)).1 with timer := 3 }),((pump ({ c with s := (rewound c.s),timer := c.timer - 1,tries := c.tries + 1 }) (max 1 c.window)).2)) := by first | rfl | (simp [tickConn,ackOf, *]; done) | (simp [tickConn,ackOf, *]; omega) | grind [tickConn,ackOf]
 exact ⟨[.agg (conL { (pump ({ c with s := (rewound c.s),timer := c.timer - 1,tries := c.tries + 1 }) (max 1 c.window)).1 with timer := 3 } (.slice v14a ((pump ({ c with s := (rewound c.s),timer := c.timer - 1,tries := c.tries + 1 }) (max 1 c.window)).1.r.held.length) v14c)).toArray,.slice v15a ((pump ({ c with s := (rewound c.s),timer := c.timer - 1,tries := c.tries + 1 }) (max 1 c.window)).2.length) v15c],by kernel_rfl,fun w' hb hf ha => by rw [hmod]; exact xo2 ((v14a,v14c),(v15a,v15c)) rfl rfl (pO (hf _ m0) hB) (pR (hf _ m1) hB) (Apart.sub2 ha (i := 0) (j := 1) rfl rfl (by decide) rfl (fun b h => h) (fun b h => rowF_blk h)) hb⟩
theorem yiscaled_c (window : Int) (o : Opt) (w : World) (h0 : 0 ≤ window ∧ window ≤ 65535) (h1 : o.scale ≤ 14) : Calls Tryz.prog 70 #[.int .i64 window, .agg (optL o).toArray] w fun e w' => e = .returned (.int .i64 (farW window o)) ∧ Below w.heap.size w w' := by
 refine x_calls (args := [.int .i64 window,.agg (optL o).toArray]) (fn := Tryz.f70) [] Tryz.func70 rfl Tryz.ntmps70 rfl (by simp) ?_
 refine kQ ?_
 refine kEF [0,3] ⟨[(0,.v (.int .i64 window)),(3,.p 0 0)],[⟨42,optL o⟩],[],[]⟩ ?_
 refine kQ ?_
 refine kOS 3 [5,7] [(5,.v (.int .i64 window)),(7,.v (.int .i64 o.scale))] (.int .i64 (max o.scale 0)) rfl (fun _ _ _ ww hr => act_max2 (k := .i64) (k' := .i64) (p := o.scale) (q := 0) hr.1 rfl rfl rfl (by kernel_rfl) (by kernel_rfl) ww) ?_
 refine kOS 0 [5,8] [(5,.v (.int .i64 window)),(8,.v (.int .i64 (max o.scale 0)))] (.int .i64 (IntKind.i64.wrap (window * 2 ^ (max o.scale 0).toNat))) rfl (fun _ _ _ ww hr => act_bin hr.1 rfl (by kernel_rfl) (by kernel_rfl) (shl_run (k' := .i64) (by have e : ((IntKind.i64.bits : Nat) : Int) = 64 := rfl; (try rw [u64_id (by omega) (by omega)]); omega) (by have e : ((IntKind.i64.bits : Nat) : Int) = 64 := rfl; (try rw [u64_id (by omega) (by omega)]); omega) ww)) ?_
 refine kOS 0 [9] [(9,.v (.int .i64 (IntKind.i64.wrap (window * 2 ^ (max o.scale 0).toNat))))] (.int .i64 (min (IntKind.i64.wrap (window * 2 ^ (max o.scale 0).toNat)) 1073725440)) rfl (fun _ _ _ ww hr => act_min2 (k := .i64) (k' := .i64) (p := IntKind.i64.wrap (window * 2 ^ (max o.scale 0).toNat)) (q := 1073725440) hr.1 rfl rfl rfl (by kernel_rfl) (by kernel_rfl) ww) ?_
 refine kRS 1 [4] [(4,.v (.int .i64 (min (IntKind.i64.wrap (window * 2 ^ (max o.scale 0).toNat)) 1073725440)))] ?_
 refine xl_eqS (t' := [(4,.v (.int .i64 (min (window * 2 ^ (max 0 o.scale).toNat) 1073725440)))]) (by rw [show (max o.scale 0) = (max 0 o.scale) from (by omega),show (IntKind.i64.wrap (window * 2 ^ (max 0 o.scale).toNat)) = (window * 2 ^ (max 0 o.scale).toNat) from far_wrap (by omega) (by omega) (by omega) (by omega)]) ?_
 refine kES [4] [(4,.v (.int .i64 (min (window * 2 ^ (max 0 o.scale).toNat) 1073725440)))] ?_
 refine kR ?_
 have hmod : farW window o = (min (window * 2 ^ (max 0 o.scale).toNat) 1073725440) := by (unfold farW; have := far_le (a := window) (b := max 0 o.scale) (by omega) (by omega) (by omega) (by omega); omega)
 exact ⟨[.int .i64 (min (window * 2 ^ (max 0 o.scale).toNat) 1073725440)],by kernel_rfl,fun w' hb hf => by rw [hmod]; exact ⟨rfl,hb⟩⟩
theorem ysReceiverNew_c (n : Int) (w : World)  (B : Nat) (hB : B ≤ w.heap.size) : Calls Tryz.prog 161 #[.int .i64 n] w fun e w' => XRs w w' e (α := Option Addr × Nat) (fun y => .agg (rcvL (rN n) (.slice y.1 ((rN n).held.length) y.2)).toArray) (fun y => [rowF B 85 2 (.slice y.1 ((rN n).held.length) y.2) ((rN n).held.map pC)]) := by
 refine x_callsA (args := [.int .i64 n]) (fn := Tryz.f161) [] Tryz.func161 rfl Tryz.ntmps161 rfl (by simp) ?_
 refine kQ ?_
 refine kEF [0,2] ⟨[(0,.v (.int .i64 n)),(2,.p 0 0)],[⟨41,rcvZ⟩],[],[]⟩ ?_
 refine kQ ?_
 refine kCS 1 [2,3] [(2,.p 0 0),(3,.v (.int .i64 n))] 122 [.int .i64 n] (some 4) rfl (xc_s fun ww hf => sRest_c n ww ) ?_
 intro _
 refine kOS 0 [2,4] [(2,.p 0 0),(4,.v (.int .i64 (n % 4294967296)))] (.agg #[.int .i64 (n % 4294967296),.string (⟨#[]⟩ : ByteArray),.slice none 0 0,.int .i64 (-1),.bool false]) rfl (fun _ _ _ ww hr => act_build [(0,.int .i64 (n % 4294967296)),(3,.int .i64 (-1))] hr.1 rfl (by kernel_rfl) (by kernel_rfl) ww) ?_
 refine kEF [2] ⟨[(2,.p 0 0)],[⟨41,[.int .i64 (n % 4294967296),.string (⟨#[]⟩ : ByteArray),.slice none 0 0,.int .i64 (-1),.bool false]⟩],[],[]⟩ ?_
 refine kR ?_
 have hmod : rN n = (⟨n % 4294967296,(⟨#[]⟩ : ByteArray),[],(-1),false⟩) := by first | rfl | (simp [rN,sA]; done)
 exact ⟨[.agg #[.int .i64 (n % 4294967296),.string (⟨#[]⟩ : ByteArray),.slice none 0 0,.int .i64 (-1),.bool false]],by kernel_rfl,fun w' hb hf ha => by rw [hmod]; exact xo1 ((none,0)) rfl rfl ⟨rowF_nil _ _ _ _,fun b hb => (nilF_b _ _ _ _ hb).elim⟩ hb⟩
theorem ysConnNew_c (t : Tup) (iss : Int) (irs : Int) (o : Opt) (window : Int) (w : World)  (B : Nat) (hB : B ≤ w.heap.size) : Calls Tryz.prog 146 #[.agg (tupL t).toArray, .int .i64 iss, .int .i64 irs, .agg (optL o).toArray, .int .i64 window] w fun e w' => XRs w w' e (α := Option Addr × Nat) (fun y => .agg (conL (connNew t iss irs o window) (.slice y.1 ((connNew t iss irs o window).r.held.length) y.2)).toArray) (fun y => [ownF B (.slice y.1 ((connNew t iss irs o window).r.held.length) y.2) 2 ((connNew t iss irs o window).r.held.map pC)]) := by
 refine x_callsA (args := [.agg (tupL t).toArray,.int .i64 iss,.int .i64 irs,.agg (optL o).toArray,.int .i64 window]) (fn := Tryz.f146) [] Tryz.func146 rfl Tryz.ntmps146 rfl (by simp) ?_
 refine kQ ?_
 refine kEF [1,2,4,5,8,10] ⟨[(1,.v (.int .i64 iss)),(2,.v (.int .i64 irs)),(4,.v (.int .i64 window)),(5,.p 0 0),(8,.p 1 0),(10,.p 2 0)],[⟨37,tupL t⟩,⟨42,optL o⟩,⟨44,conZ⟩],[],[]⟩ ?_
 refine kS ?_
 refine kQ ?_
 refine kCD 1 [1,2,4,5,8,10,12] [(12,.v (.agg (optL o).toArray))] 66 [.agg (optL o).toArray] (some 13) rfl (xc_b fun ww hf => sOptionsOk_c o.mss o.scale o.sack o.stamp o.val o.echo ww ) ?_
 intro _
 refine kED [1,2,4,5,8,10,14] [(14,.v (.bool (!(optionsOk o))))] ?_
 refine kC (!(optionsOk o)) (fun h1 => ?_) (fun h1 => ?_)
 have h1n := not_t h1
 refine kG ?_
 refine kCD 0 [1,2,4,5,8,10] [] 88 [] (some 15) rfl (xc_b fun ww hf => sNoOptions_c  ww ) ?_
 intro _
 refine kEU [1,2,4,5,8,10] [] 1 ⟨42,[.int .i64 0,.int .i64 (-1),.bool false,.bool false,.int .i64 0,.int .i64 0]⟩ ?_
 refine kS ?_
 refine kQ ?_
 refine kCD 1 [1,2,4,5,8,10,16] [(16,.v (.int .i64 window))] 114 [.int .i64 window,.int .i64 16] (some 17) rfl (xc_s fun ww hf => sWordOk16_c window ww) ?_
 intro _
 refine kED [1,2,4,5,8,10,18] [(18,.v (.bool (!(wordOk window 16))))] ?_
 refine kC (!(wordOk window 16)) (fun h2 => ?_) (fun h2 => ?_)
 have h2n := not_t h2
 refine kG ?_
 refine kED [1,2,4,5,8,10] [(4,.v (.int .i64 0))] ?_
 refine kQ ?_
 refine kCD 3 [1,2,5,8,10,19,21] [(19,.v (.int .i64 0)),(21,.v (.int .i64 (-1)))] 76 [.int .i64 0,.int .i64 (-1)] (some 22) rfl (xc_s fun ww hf => l1Max_c 0 (-1) ww ) ?_
 intro _
 refine kOD 1 [1,2,5,8,10,19,23] [(23,.v (.int .u64 (IntKind.u64.wrap (max 0 (-1)))))] (.int .i64 (IntKind.i64.wrap (0 * 2 ^ (IntKind.u64.wrap (max 0 (-1))).toNat))) rfl (fun _ _ _ ww hr => act_bin hr.1 rfl (by kernel_rfl) (by kernel_rfl) (shl_run (k' := .u64) (by have e : ((IntKind.i64.bits : Nat) : Int) = 64 := rfl; (try rw [u64_id (by omega) (by omega)]); omega) (by have e : ((IntKind.i64.bits : Nat) : Int) = 64 := rfl; (try rw [u64_id (by omega) (by omega)]); omega) ww)) ?_
 refine kRS 1 [1,2,5,8,10,11] [(1,.v (.int .i64 iss)),(2,.v (.int .i64 irs)),(5,.p 0 0),(8,.p 1 0),(10,.p 2 0),(11,.v (.int .i64 (IntKind.i64.wrap (0 * 2 ^ (IntKind.u64.wrap (max 0 (-1))).toNat))))] ?_
 refine xl_eqS (t' := [(1,.v (.int .i64 iss)),(2,.v (.int .i64 irs)),(5,.p 0 0),(8,.p 1 0),(10,.p 2 0),(11,.v (.int .i64 (0 * 2 ^ (max 0 (-1) : Int).toNat)))]) (by rw [show (IntKind.u64.wrap (max 0 (-1))) = (max 0 (-1) : Int) from u64_id (by omega) (by omega),show (IntKind.i64.wrap (0 * 2 ^ (max 0 (-1) : Int).toNat)) = (0 * 2 ^ (max 0 (-1) : Int).toNat) from far_wrap (by omega) (by omega) (by omega) (by omega)]) ?_
 refine kED [1,2,5,8,10,11] [] ?_
 refine kS ?_
 refine xe_region [true,true,false] (by kernel_rfl) (fun ρ σ => ?_)
 refine kTS [0,1,4,7,8,9] [34,33,32,29,26,25,10] 6 [(34,.v (.agg #[.int .i64 0,.int .i64 (-1),.bool false,.bool false,.int .i64 0,.int .i64 0])),(33,.v (.int .i64 (0 * 2 ^ (max 0 (-1) : Int).toNat))),(32,.v (.int .i64 (0 * 2 ^ (max 0 (-1) : Int).toNat))),(29,.v (.int .i64 irs)),(26,.v (.int .i64 iss)),(25,.v (.agg (tupL t).toArray)),(10,.p 2 0)] ?_
 refine kA [2] ?_
 refine kSC 2 120 [.int .i64 iss,.int .i64 1] (some 27) rfl (xc_s fun ww hf => sSeqAdd_c iss 1 ww ) ?_
 intro _
 refine kX 3 (.agg #[.int .i64 (sA iss 1),.string (⟨#[]⟩ : ByteArray),.int .i64 0,.bool false,.bool false,.bool false]) rfl (fun _ _ ww hA => act_build [(0,.int .i64 (sA iss 1))] hA rfl (by kernel_rfl) (by kernel_rfl) ww) ?_
 refine kA [5] ?_
 refine kSC 5 120 [.int .i64 irs,.int .i64 1] (some 30) rfl (xc_s fun ww hf => sSeqAdd_c irs 1 ww ) ?_
 intro _
 refine kA [6] ?_
 refine kSC 6 161 [.int .i64 (sA irs 1)] (some 31) rfl (xc_r fun ww hw hf => ysReceiverNew_c (sA irs 1) ww   w.heap.size hw) ?_
 rintro ⟨v3a,v3c⟩
 refine kX 10 (.agg #[.int .i64 t.ip,.int .i64 t.port,.int .i64 t.my,.int .i64 1,.int .i64 (sA iss 1),.string (⟨#[]⟩ : ByteArray),.int .i64 0,.bool false,.bool false,.bool false,.int .i64 ((rN (sA irs 1)).next),.string ((rN (sA irs 1)).data),.slice v3a ((rN (sA irs 1)).held.length) v3c,.int .i64 ((rN (sA irs 1)).fin),.bool ((rN (sA irs 1)).done),.int .i64 (0 * 2 ^ (max 0 (-1) : Int).toNat),.int .i64 (0 * 2 ^ (max 0 (-1) : Int).toNat),.int .i64 0,.int .i64 (-1),.bool false,.bool false,.int .i64 0,.int .i64 0,.int .i64 0,.int .i64 0]) rfl (fun _ _ ww hA => act_build [(0,.agg (tupL t).toArray),(1,.int .i64 1),(2,.agg #[.int .i64 (sA iss 1),.string (⟨#[]⟩ : ByteArray),.int .i64 0,.bool false,.bool false,.bool false]),(3,.agg (rcvL (rN (sA irs 1)) (.slice v3a ((rN (sA irs 1)).held.length) v3c)).toArray),(4,.int .i64 (0 * 2 ^ (max 0 (-1) : Int).toNat)),(5,.int .i64 (0 * 2 ^ (max 0 (-1) : Int).toNat)),(6,.agg #[.int .i64 0,.int .i64 (-1),.bool false,.bool false,.int .i64 0,.int .i64 0])] hA rfl (by kernel_rfl) (by kernel_rfl) ww) ?_
 refine kA [11] ?_
 refine kSS 11 2 0 [.int .i64 t.ip,.int .i64 t.port,.int .i64 t.my,.int .i64 1,.int .i64 (sA iss 1),.string (⟨#[]⟩ : ByteArray),.int .i64 0,.bool false,.bool false,.bool false,.int .i64 ((rN (sA irs 1)).next),.string ((rN (sA irs 1)).data),.slice v3a ((rN (sA irs 1)).held.length) v3c,.int .i64 ((rN (sA irs 1)).fin),.bool ((rN (sA irs 1)).done),.int .i64 (0 * 2 ^ (max 0 (-1) : Int).toNat),.int .i64 (0 * 2 ^ (max 0 (-1) : Int).toNat),.int .i64 0,.int .i64 (-1),.bool false,.bool false,.int .i64 0,.int .i64 0,.int .i64 0,.int .i64 0] rfl ?_
 refine kZ ?_
 refine kR ?_
 have hmod : connNew t iss irs o window = (⟨t,1,⟨sA iss 1,(⟨#[]⟩ : ByteArray),0,false,false,false⟩,(rN (sA irs 1)),0 * 2 ^ (max 0 (-1) : Int).toNat,0 * 2 ^ (max 0 (-1) : Int).toNat,⟨0,(-1),false,false,0,0⟩,0,0⟩) := by first | rfl | (simp [connNew,farW,rN, *]; done) | grind [connNew,farW,rN]
 exact ⟨[.agg #[.int .i64 t.ip,.int .i64 t.port,.int .i64 t.my,.int .i64 1,.int .i64 (sA iss 1),.string (⟨#[]⟩ : ByteArray),.int .i64 0,.bool false,.bool false,.bool false,.int .i64 ((rN (sA irs 1)).next),.string ((rN (sA irs 1)).data),.slice v3a ((rN (sA irs 1)).held.length) v3c,.int .i64 ((rN (sA irs 1)).fin),.bool ((rN (sA irs 1)).done),.int .i64 (0 * 2 ^ (max 0 (-1) : Int).toNat),.int .i64 (0 * 2 ^ (max 0 (-1) : Int).toNat),.int .i64 0,.int .i64 (-1),.bool false,.bool false,.int .i64 0,.int .i64 0,.int .i64 0,.int .i64 0]],by kernel_rfl,fun w' hb hf ha => by rw [hmod]; exact xo1 ((v3a,v3c)) rfl rfl (pR (hf _ m0) hB) hb⟩
 have h2n := not_f h2
 have h2nw := wordOk16_bd (by simpa using h2n)
 obtain ⟨h2nw0,h2nw1⟩ := h2nw
 refine kK ?_
 refine kQ ?_
 refine kCD 3 [1,2,5,8,10,19,21] [(19,.v (.int .i64 window)),(21,.v (.int .i64 (-1)))] 76 [.int .i64 0,.int .i64 (-1)] (some 22) rfl (xc_s fun ww hf => l1Max_c 0 (-1) ww ) ?_
 intro _
 refine kOD 1 [1,2,5,8,10,19,23] [(23,.v (.int .u64 (IntKind.u64.wrap (max 0 (-1)))))] (.int .i64 (IntKind.i64.wrap (window * 2 ^ (IntKind.u64.wrap (max 0 (-1))).toNat))) rfl (fun _ _ _ ww hr => act_bin hr.1 rfl (by kernel_rfl) (by kernel_rfl) (shl_run (k' := .u64) (by have e : ((IntKind.i64.bits : Nat) : Int) = 64 := rfl; (try rw [u64_id (by omega) (by omega)]); omega) (by have e : ((IntKind.i64.bits : Nat) : Int) = 64 := rfl; (try rw [u64_id (by omega) (by omega)]); omega) ww)) ?_
 refine kRD 1 [1,2,5,8,10,11] [(11,.v (.int .i64 (IntKind.i64.wrap (window * 2 ^ (IntKind.u64.wrap (max 0 (-1))).toNat))))] ?_
 refine xl_nv [1,2,5,8,10,11] [(11,.v (.int .i64 (IntKind.i64.wrap (window * 2 ^ (IntKind.u64.wrap (max 0 (-1))).toNat))))] [(11,.v (.int .i64 (window * 2 ^ (max 0 (-1) : Int).toNat)))] (by rw [show (IntKind.u64.wrap (max 0 (-1))) = (max 0 (-1) : Int) from u64_id (by omega) (by omega),show (IntKind.i64.wrap (window * 2 ^ (max 0 (-1) : Int).toNat)) = (window * 2 ^ (max 0 (-1) : Int).toNat) from far_wrap (by omega) (by omega) (by omega) (by omega)]) (by kernel_rfl) ?_
 refine kES [1,2,5,8,10,11] [(1,.v (.int .i64 iss)),(2,.v (.int .i64 irs)),(5,.p 0 0),(8,.p 1 0),(10,.p 2 0),(11,.v (.int .i64 (window * 2 ^ (max 0 (-1) : Int).toNat)))] ?_
 refine kS ?_
 refine xe_region [true,true,false] (by kernel_rfl) (fun ρ σ => ?_)
 refine kTS [0,1,4,7,8,9] [34,33,32,29,26,25,10] 6 [(34,.v (.agg #[.int .i64 0,.int .i64 (-1),.bool false,.bool false,.int .i64 0,.int .i64 0])),(33,.v (.int .i64 (window * 2 ^ (max 0 (-1) : Int).toNat))),(32,.v (.int .i64 (window * 2 ^ (max 0 (-1) : Int).toNat))),(29,.v (.int .i64 irs)),(26,.v (.int .i64 iss)),(25,.v (.agg (tupL t).toArray)),(10,.p 2 0)] ?_
 refine kA [2] ?_
 refine kSC 2 120 [.int .i64 iss,.int .i64 1] (some 27) rfl (xc_s fun ww hf => sSeqAdd_c iss 1 ww ) ?_
 intro _
 refine kX 3 (.agg #[.int .i64 (sA iss 1),.string (⟨#[]⟩ : ByteArray),.int .i64 0,.bool false,.bool false,.bool false]) rfl (fun _ _ ww hA => act_build [(0,.int .i64 (sA iss 1))] hA rfl (by kernel_rfl) (by kernel_rfl) ww) ?_
 refine kA [5] ?_
 refine kSC 5 120 [.int .i64 irs,.int .i64 1] (some 30) rfl (xc_s fun ww hf => sSeqAdd_c irs 1 ww ) ?_
 intro _
 refine kA [6] ?_
 refine kSC 6 161 [.int .i64 (sA irs 1)] (some 31) rfl (xc_r fun ww hw hf => ysReceiverNew_c (sA irs 1) ww   w.heap.size hw) ?_
 rintro ⟨v4a,v4c⟩
 refine kX 10 (.agg #[.int .i64 t.ip,.int .i64 t.port,.int .i64 t.my,.int .i64 1,.int .i64 (sA iss 1),.string (⟨#[]⟩ : ByteArray),.int .i64 0,.bool false,.bool false,.bool false,.int .i64 ((rN (sA irs 1)).next),.string ((rN (sA irs 1)).data),.slice v4a ((rN (sA irs 1)).held.length) v4c,.int .i64 ((rN (sA irs 1)).fin),.bool ((rN (sA irs 1)).done),.int .i64 (window * 2 ^ (max 0 (-1) : Int).toNat),.int .i64 (window * 2 ^ (max 0 (-1) : Int).toNat),.int .i64 0,.int .i64 (-1),.bool false,.bool false,.int .i64 0,.int .i64 0,.int .i64 0,.int .i64 0]) rfl (fun _ _ ww hA => act_build [(0,.agg (tupL t).toArray),(1,.int .i64 1),(2,.agg #[.int .i64 (sA iss 1),.string (⟨#[]⟩ : ByteArray),.int .i64 0,.bool false,.bool false,.bool false]),(3,.agg (rcvL (rN (sA irs 1)) (.slice v4a ((rN (sA irs 1)).held.length) v4c)).toArray),(4,.int .i64 (window * 2 ^ (max 0 (-1) : Int).toNat)),(5,.int .i64 (window * 2 ^ (max 0 (-1) : Int).toNat)),(6,.agg #[.int .i64 0,.int .i64 (-1),.bool false,.bool false,.int .i64 0,.int .i64 0])] hA rfl (by kernel_rfl) (by kernel_rfl) ww) ?_
 refine kA [11] ?_
 refine kSS 11 2 0 [.int .i64 t.ip,.int .i64 t.port,.int .i64 t.my,.int .i64 1,.int .i64 (sA iss 1),.string (⟨#[]⟩ : ByteArray),.int .i64 0,.bool false,.bool false,.bool false,.int .i64 ((rN (sA irs 1)).next),.string ((rN (sA irs 1)).data),.slice v4a ((rN (sA irs 1)).held.length) v4c,.int .i64 ((rN (sA irs 1)).fin),.bool ((rN (sA irs 1)).done),.int .i64 (window * 2 ^ (max 0 (-1) : Int).toNat),.int .i64 (window * 2 ^ (max 0 (-1) : Int).toNat),.int .i64 0,.int .i64 (-1),.bool false,.bool false,.int .i64 0,.int .i64 0,.int .i64 0,.int .i64 0] rfl ?_
 refine kZ ?_
 refine kR ?_
 have hmod : connNew t iss irs o window = (⟨t,1,⟨sA iss 1,(⟨#[]⟩ : ByteArray),0,false,false,false⟩,(rN (sA irs 1)),window * 2 ^ (max 0 (-1) : Int).toNat,window * 2 ^ (max 0 (-1) : Int).toNat,⟨0,(-1),false,false,0,0⟩,0,0⟩) := by first | rfl | (simp [connNew,farW,rN, *]; done) | grind [connNew,farW,rN]
 exact ⟨[.agg #[.int .i64 t.ip,.int .i64 t.port,.int .i64 t.my,.int .i64 1,.int .i64 (sA iss 1),.string (⟨#[]⟩ : ByteArray),.int .i64 0,.bool false,.bool false,.bool false,.int .i64 ((rN (sA irs 1)).next),.string ((rN (sA irs 1)).data),.slice v4a ((rN (sA irs 1)).held.length) v4c,.int .i64 ((rN (sA irs 1)).fin),.bool ((rN (sA irs 1)).done),.int .i64 (window * 2 ^ (max 0 (-1) : Int).toNat),.int .i64 (window * 2 ^ (max 0 (-1) : Int).toNat),.int .i64 0,.int .i64 (-1),.bool false,.bool false,.int .i64 0,.int .i64 0,.int .i64 0,.int .i64 0]],by kernel_rfl,fun w' hb hf ha => by rw [hmod]; exact xo1 ((v4a,v4c)) rfl rfl (pR (hf _ m0) hB) hb⟩
 have h1n := not_f h1
 have h1nw := optionsOk_bd (by simpa using h1n)
 obtain ⟨h1nw0,h1nw1⟩ := h1nw
 refine kK ?_
 refine kS ?_
 refine kQ ?_
 refine kCD 1 [1,2,4,5,8,10,16] [(16,.v (.int .i64 window))] 114 [.int .i64 window,.int .i64 16] (some 17) rfl (xc_s fun ww hf => sWordOk16_c window ww) ?_
 intro _
 refine kED [1,2,4,5,8,10,18] [(18,.v (.bool (!(wordOk window 16))))] ?_
 refine kC (!(wordOk window 16)) (fun h5 => ?_) (fun h5 => ?_)
 have h5n := not_t h5
 refine kG ?_
 refine kED [1,2,4,5,8,10] [(4,.v (.int .i64 0))] ?_
 refine kQ ?_
 refine kCD 3 [1,2,5,8,10,19,21] [(19,.v (.int .i64 0)),(21,.v (.int .i64 o.scale))] 76 [.int .i64 0,.int .i64 o.scale] (some 22) rfl (xc_s fun ww hf => l1Max_c 0 o.scale ww ) ?_
 intro _
 refine kOD 1 [1,2,5,8,10,19,23] [(23,.v (.int .u64 (IntKind.u64.wrap (max 0 o.scale))))] (.int .i64 (IntKind.i64.wrap (0 * 2 ^ (IntKind.u64.wrap (max 0 o.scale)).toNat))) rfl (fun _ _ _ ww hr => act_bin hr.1 rfl (by kernel_rfl) (by kernel_rfl) (shl_run (k' := .u64) (by have e : ((IntKind.i64.bits : Nat) : Int) = 64 := rfl; (try rw [u64_id (by omega) (by omega)]); omega) (by have e : ((IntKind.i64.bits : Nat) : Int) = 64 := rfl; (try rw [u64_id (by omega) (by omega)]); omega) ww)) ?_
 refine kRD 1 [1,2,5,8,10,11] [(11,.v (.int .i64 (IntKind.i64.wrap (0 * 2 ^ (IntKind.u64.wrap (max 0 o.scale)).toNat))))] ?_
 refine xl_nv [1,2,5,8,10,11] [(11,.v (.int .i64 (IntKind.i64.wrap (0 * 2 ^ (IntKind.u64.wrap (max 0 o.scale)).toNat))))] [(11,.v (.int .i64 (0 * 2 ^ (max 0 o.scale).toNat)))] (by rw [show (IntKind.u64.wrap (max 0 o.scale)) = (max 0 o.scale) from u64_id (by omega) (by omega),show (IntKind.i64.wrap (0 * 2 ^ (max 0 o.scale).toNat)) = (0 * 2 ^ (max 0 o.scale).toNat) from far_wrap (by omega) (by omega) (by omega) (by omega)]) (by kernel_rfl) ?_
 refine kED [1,2,5,8,10,11] [] ?_
 refine kS ?_
 refine xe_region [true,true,false] (by kernel_rfl) (fun ρ σ => ?_)
 refine kTS [0,1,4,7,8,9] [34,33,32,29,26,25,10] 6 [(34,.v (.agg (optL o).toArray)),(33,.v (.int .i64 (0 * 2 ^ (max 0 o.scale).toNat))),(32,.v (.int .i64 (0 * 2 ^ (max 0 o.scale).toNat))),(29,.v (.int .i64 irs)),(26,.v (.int .i64 iss)),(25,.v (.agg (tupL t).toArray)),(10,.p 2 0)] ?_
 refine kA [2] ?_
 refine kSC 2 120 [.int .i64 iss,.int .i64 1] (some 27) rfl (xc_s fun ww hf => sSeqAdd_c iss 1 ww ) ?_
 intro _
 refine kX 3 (.agg #[.int .i64 (sA iss 1),.string (⟨#[]⟩ : ByteArray),.int .i64 0,.bool false,.bool false,.bool false]) rfl (fun _ _ ww hA => act_build [(0,.int .i64 (sA iss 1))] hA rfl (by kernel_rfl) (by kernel_rfl) ww) ?_
 refine kA [5] ?_
 refine kSC 5 120 [.int .i64 irs,.int .i64 1] (some 30) rfl (xc_s fun ww hf => sSeqAdd_c irs 1 ww ) ?_
 intro _
 refine kA [6] ?_
 refine kSC 6 161 [.int .i64 (sA irs 1)] (some 31) rfl (xc_r fun ww hw hf => ysReceiverNew_c (sA irs 1) ww   w.heap.size hw) ?_
 rintro ⟨v6a,v6c⟩
 refine kX 10 (.agg #[.int .i64 t.ip,.int .i64 t.port,.int .i64 t.my,.int .i64 1,.int .i64 (sA iss 1),.string (⟨#[]⟩ : ByteArray),.int .i64 0,.bool false,.bool false,.bool false,.int .i64 ((rN (sA irs 1)).next),.string ((rN (sA irs 1)).data),.slice v6a ((rN (sA irs 1)).held.length) v6c,.int .i64 ((rN (sA irs 1)).fin),.bool ((rN (sA irs 1)).done),.int .i64 (0 * 2 ^ (max 0 o.scale).toNat),.int .i64 (0 * 2 ^ (max 0 o.scale).toNat),.int .i64 o.mss,.int .i64 o.scale,.bool o.sack,.bool o.stamp,.int .i64 o.val,.int .i64 o.echo,.int .i64 0,.int .i64 0]) rfl (fun _ _ ww hA => act_build [(0,.agg (tupL t).toArray),(1,.int .i64 1),(2,.agg #[.int .i64 (sA iss 1),.string (⟨#[]⟩ : ByteArray),.int .i64 0,.bool false,.bool false,.bool false]),(3,.agg (rcvL (rN (sA irs 1)) (.slice v6a ((rN (sA irs 1)).held.length) v6c)).toArray),(4,.int .i64 (0 * 2 ^ (max 0 o.scale).toNat)),(5,.int .i64 (0 * 2 ^ (max 0 o.scale).toNat)),(6,.agg (optL o).toArray)] hA rfl (by kernel_rfl) (by kernel_rfl) ww) ?_
 refine kA [11] ?_
 refine kSS 11 2 0 [.int .i64 t.ip,.int .i64 t.port,.int .i64 t.my,.int .i64 1,.int .i64 (sA iss 1),.string (⟨#[]⟩ : ByteArray),.int .i64 0,.bool false,.bool false,.bool false,.int .i64 ((rN (sA irs 1)).next),.string ((rN (sA irs 1)).data),.slice v6a ((rN (sA irs 1)).held.length) v6c,.int .i64 ((rN (sA irs 1)).fin),.bool ((rN (sA irs 1)).done),.int .i64 (0 * 2 ^ (max 0 o.scale).toNat),.int .i64 (0 * 2 ^ (max 0 o.scale).toNat),.int .i64 o.mss,.int .i64 o.scale,.bool o.sack,.bool o.stamp,.int .i64 o.val,.int .i64 o.echo,.int .i64 0,.int .i64 0] rfl ?_
 refine kZ ?_
 refine kR ?_
 have hmod : connNew t iss irs o window = (⟨t,1,⟨sA iss 1,(⟨#[]⟩ : ByteArray),0,false,false,false⟩,(rN (sA irs 1)),0 * 2 ^ (max 0 o.scale).toNat,0 * 2 ^ (max 0 o.scale).toNat,o,0,0⟩) := by first | rfl | (simp [connNew,farW,rN, *]; done) | grind [connNew,farW,rN]
 exact ⟨[.agg #[.int .i64 t.ip,.int .i64 t.port,.int .i64 t.my,.int .i64 1,.int .i64 (sA iss 1),.string (⟨#[]⟩ : ByteArray),.int .i64 0,.bool false,.bool false,.bool false,.int .i64 ((rN (sA irs 1)).next),.string ((rN (sA irs 1)).data),.slice v6a ((rN (sA irs 1)).held.length) v6c,.int .i64 ((rN (sA irs 1)).fin),.bool ((rN (sA irs 1)).done),.int .i64 (0 * 2 ^ (max 0 o.scale).toNat),.int .i64 (0 * 2 ^ (max 0 o.scale).toNat),.int .i64 o.mss,.int .i64 o.scale,.bool o.sack,.bool o.stamp,.int .i64 o.val,.int .i64 o.echo,.int .i64 0,.int .i64 0]],by kernel_rfl,fun w' hb hf ha => by rw [hmod]; exact xo1 ((v6a,v6c)) rfl rfl (pR (hf _ m0) hB) hb⟩
 have h5n := not_f h5
 have h5nw := wordOk16_bd (by simpa using h5n)
 obtain ⟨h5nw0,h5nw1⟩ := h5nw
 refine kK ?_
 refine kQ ?_
 refine kCD 3 [1,2,5,8,10,19,21] [(19,.v (.int .i64 window)),(21,.v (.int .i64 o.scale))] 76 [.int .i64 0,.int .i64 o.scale] (some 22) rfl (xc_s fun ww hf => l1Max_c 0 o.scale ww ) ?_
 intro _
 refine kOD 1 [1,2,5,8,10,19,23] [(23,.v (.int .u64 (IntKind.u64.wrap (max 0 o.scale))))] (.int .i64 (IntKind.i64.wrap (window * 2 ^ (IntKind.u64.wrap (max 0 o.scale)).toNat))) rfl (fun _ _ _ ww hr => act_bin hr.1 rfl (by kernel_rfl) (by kernel_rfl) (shl_run (k' := .u64) (by have e : ((IntKind.i64.bits : Nat) : Int) = 64 := rfl; (try rw [u64_id (by omega) (by omega)]); omega) (by have e : ((IntKind.i64.bits : Nat) : Int) = 64 := rfl; (try rw [u64_id (by omega) (by omega)]); omega) ww)) ?_
 refine kRD 1 [1,2,5,8,10,11] [(11,.v (.int .i64 (IntKind.i64.wrap (window * 2 ^ (IntKind.u64.wrap (max 0 o.scale)).toNat))))] ?_
 refine xl_nv [1,2,5,8,10,11] [(11,.v (.int .i64 (IntKind.i64.wrap (window * 2 ^ (IntKind.u64.wrap (max 0 o.scale)).toNat))))] [(11,.v (.int .i64 (window * 2 ^ (max 0 o.scale).toNat)))] (by rw [show (IntKind.u64.wrap (max 0 o.scale)) = (max 0 o.scale) from u64_id (by omega) (by omega),show (IntKind.i64.wrap (window * 2 ^ (max 0 o.scale).toNat)) = (window * 2 ^ (max 0 o.scale).toNat) from far_wrap (by omega) (by omega) (by omega) (by omega)]) (by kernel_rfl) ?_
 refine kED [1,2,5,8,10,11] [] ?_
 refine kS ?_
 refine xe_region [true,true,false] (by kernel_rfl) (fun ρ σ => ?_)
 refine kTS [0,1,4,7,8,9] [34,33,32,29,26,25,10] 6 [(34,.v (.agg (optL o).toArray)),(33,.v (.int .i64 (window * 2 ^ (max 0 o.scale).toNat))),(32,.v (.int .i64 (window * 2 ^ (max 0 o.scale).toNat))),(29,.v (.int .i64 irs)),(26,.v (.int .i64 iss)),(25,.v (.agg (tupL t).toArray)),(10,.p 2 0)] ?_
 refine kA [2] ?_
 refine kSC 2 120 [.int .i64 iss,.int .i64 1] (some 27) rfl (xc_s fun ww hf => sSeqAdd_c iss 1 ww ) ?_
 intro _
 refine kX 3 (.agg #[.int .i64 (sA iss 1),.string (⟨#[]⟩ : ByteArray),.int .i64 0,.bool false,.bool false,.bool false]) rfl (fun _ _ ww hA => act_build [(0,.int .i64 (sA iss 1))] hA rfl (by kernel_rfl) (by kernel_rfl) ww) ?_
 refine kA [5] ?_
 refine kSC 5 120 [.int .i64 irs,.int .i64 1] (some 30) rfl (xc_s fun ww hf => sSeqAdd_c irs 1 ww ) ?_
 intro _
 refine kA [6] ?_
 refine kSC 6 161 [.int .i64 (sA irs 1)] (some 31) rfl (xc_r fun ww hw hf => ysReceiverNew_c (sA irs 1) ww   w.heap.size hw) ?_
 rintro ⟨v7a,v7c⟩
 refine kX 10 (.agg #[.int .i64 t.ip,.int .i64 t.port,.int .i64 t.my,.int .i64 1,.int .i64 (sA iss 1),.string (⟨#[]⟩ : ByteArray),.int .i64 0,.bool false,.bool false,.bool false,.int .i64 ((rN (sA irs 1)).next),.string ((rN (sA irs 1)).data),.slice v7a ((rN (sA irs 1)).held.length) v7c,.int .i64 ((rN (sA irs 1)).fin),.bool ((rN (sA irs 1)).done),.int .i64 (window * 2 ^ (max 0 o.scale).toNat),.int .i64 (window * 2 ^ (max 0 o.scale).toNat),.int .i64 o.mss,.int .i64 o.scale,.bool o.sack,.bool o.stamp,.int .i64 o.val,.int .i64 o.echo,.int .i64 0,.int .i64 0]) rfl (fun _ _ ww hA => act_build [(0,.agg (tupL t).toArray),(1,.int .i64 1),(2,.agg #[.int .i64 (sA iss 1),.string (⟨#[]⟩ : ByteArray),.int .i64 0,.bool false,.bool false,.bool false]),(3,.agg (rcvL (rN (sA irs 1)) (.slice v7a ((rN (sA irs 1)).held.length) v7c)).toArray),(4,.int .i64 (window * 2 ^ (max 0 o.scale).toNat)),(5,.int .i64 (window * 2 ^ (max 0 o.scale).toNat)),(6,.agg (optL o).toArray)] hA rfl (by kernel_rfl) (by kernel_rfl) ww) ?_
 refine kA [11] ?_
 refine kSS 11 2 0 [.int .i64 t.ip,.int .i64 t.port,.int .i64 t.my,.int .i64 1,.int .i64 (sA iss 1),.string (⟨#[]⟩ : ByteArray),.int .i64 0,.bool false,.bool false,.bool false,.int .i64 ((rN (sA irs 1)).next),.string ((rN (sA irs 1)).data),.slice v7a ((rN (sA irs 1)).held.length) v7c,.int .i64 ((rN (sA irs 1)).fin),.bool ((rN (sA irs 1)).done),.int .i64 (window * 2 ^ (max 0 o.scale).toNat),.int .i64 (window * 2 ^ (max 0 o.scale).toNat),.int .i64 o.mss,.int .i64 o.scale,.bool o.sack,.bool o.stamp,.int .i64 o.val,.int .i64 o.echo,.int .i64 0,.int .i64 0] rfl ?_
 refine kZ ?_
 refine kR ?_
 have hmod : connNew t iss irs o window = (⟨t,1,⟨sA iss 1,(⟨#[]⟩ : ByteArray),0,false,false,false⟩,(rN (sA irs 1)),window * 2 ^ (max 0 o.scale).toNat,window * 2 ^ (max 0 o.scale).toNat,o,0,0⟩) := by first | rfl | (simp [connNew,farW,rN, *]; done) | grind [connNew,farW,rN]
 exact ⟨[.agg #[.int .i64 t.ip,.int .i64 t.port,.int .i64 t.my,.int .i64 1,.int .i64 (sA iss 1),.string (⟨#[]⟩ : ByteArray),.int .i64 0,.bool false,.bool false,.bool false,.int .i64 ((rN (sA irs 1)).next),.string ((rN (sA irs 1)).data),.slice v7a ((rN (sA irs 1)).held.length) v7c,.int .i64 ((rN (sA irs 1)).fin),.bool ((rN (sA irs 1)).done),.int .i64 (window * 2 ^ (max 0 o.scale).toNat),.int .i64 (window * 2 ^ (max 0 o.scale).toNat),.int .i64 o.mss,.int .i64 o.scale,.bool o.sack,.bool o.stamp,.int .i64 o.val,.int .i64 o.echo,.int .i64 0,.int .i64 0]],by kernel_rfl,fun w' hb hf ha => by rw [hmod]; exact xo1 ((v7a,v7c)) rfl rfl (pR (hf _ m0) hB) hb⟩
theorem ysHeard_c (c : Con) (rV : Value) (g : Seg) (w : World) (hZ : Sl w rV 2 (c.r.held.map pC)) (hkn : c.r.held.length ≤ 1048576)(hgz : g.body.size ≤ 1048576) (hm : ∀ p ∈ c.r.held, p.text.size ≤ 1048576) (hsz : c.r.data.size ≤ 4611686018427387904) (B : Nat) (hB : B ≤ w.heap.size) : Calls Tryz.prog 28 #[.agg (conL c rV).toArray, .agg (segL g).toArray] w fun e w' => XRs w w' e (α := Option Addr × Nat) (fun y => .agg (conL (heard c g) (.slice y.1 ((heard c g).r.held.length) y.2)).toArray) (fun y => [ownF B (.slice y.1 ((heard c g).r.held.length) y.2) 2 ((heard c g).r.held.map pC)]) := by
 obtain ⟨Z,Y,hY⟩ := hZ.form
 rw [List.length_map] at hY; subst hY
 have hJ := hZ.len; rw [List.length_map] at hJ
 have hqcrh := Sl.capLe hZ
 refine x_callsA (args := [.agg (conL c (.slice Z c.r.held.length Y)).toArray,.agg (segL g).toArray]) (fn := Tryz.f28) [slF (.slice Z c.r.held.length Y) 2 (c.r.held.map pC)] Tryz.func28 rfl Tryz.ntmps28 rfl (by simp only [List.mem_cons,List.not_mem_nil,or_false,forall_eq_or_imp,forall_eq]; exact ⟨rfl,hZ⟩) ?_
 refine kQ ?_
 refine kEF [2,3,4] ⟨[(2,.p 0 0),(3,.p 1 0),(4,.p 2 0)],[⟨44,conL c (.slice Z c.r.held.length Y)⟩,⟨50,segL g⟩,⟨44,conZ⟩],[],[slF (.slice Z c.r.held.length Y) 2 (c.r.held.map pC)]⟩ ?_
 refine kQ ?_
 refine kCD 1 [2,3,4,9] [(9,.v (.agg (conL c (.slice Z c.r.held.length Y)).toArray))] 33 [.agg (conL c (.slice Z c.r.held.length Y)).toArray] (some 10) rfl (xc_r fun ww hw hf => yl19Copy_c c (.slice Z c.r.held.length Y) ww (hf _ m0) (by assumption) w.heap.size hw) ?_
 rintro ⟨v1a,v1c⟩
 refine kEA [2,3,4,5] [(5,.p 3 0)] [⟨44,conL c (.slice v1a c.r.held.length v1c)⟩] ?_
 refine kS ?_
 refine kQ ?_
 refine kCD 2 [2,3,4,5,11,12] [(11,.v (.agg (conL c (.slice Z c.r.held.length Y)).toArray)),(12,.v (.agg (segL g).toArray))] 29 [.agg (conL c (.slice Z c.r.held.length Y)).toArray,.agg (segL g).toArray] (some 13) rfl (xc_b fun ww hf => ysVerdict_c c (.slice Z c.r.held.length Y) g ww (hf _ m1) (by omega) (by assumption) (by omega)) ?_
 intro _
 refine kED [2,3,4,5,14] [(14,.v (.bool ((verdict c g) != 5)))] ?_
 refine kC ((verdict c g) != 5) (fun h2 => ?_) (fun h2 => ?_)
 have h2p := neT h2
 have hv5 : ¬ verdict c g = 5 := by simpa using h2
 refine kQ ?_
 refine kEU [4] [(4,.p 2 0)] 2 ⟨44,conL c (.slice v1a c.r.held.length v1c)⟩ ?_
 refine kR ?_
 have hmod : heard c g = c := by first | (unfold heard; rw [if_pos hv5,← hm5]; unfold heardR; rw [if_pos (by assumption)]; done) | (unfold heard; rw [if_pos hv5,← hm5]; unfold heardR; rw [if_neg (by simp [*]; done),← hmr]; done) | (unfold heard; rw [if_neg hv5]; done)
 exact ⟨[.agg (conL c (.slice v1a c.r.held.length v1c)).toArray],by kernel_rfl,fun w' hb hf ha => by rw [hmod]; exact xo1 ((v1a,v1c)) rfl rfl (pO (hf _ m0) hB) hb⟩
 have h2p := neF h2
 have hv5 : verdict c g = 5 := by simpa using h2
 obtain ⟨hc1,hc2,hc3,-⟩ := verdict_fine hv5
 have hgw := segmentOk_w hc3
 have hsc := optionsOk_bd (conOk_r hc1).2.1
 have hfw := farW_bd hgw (conOk_r hc1).2.1
 refine kK ?_
 refine kQ ?_
 refine kCD 4 [2,3,4,5,18,20] [(18,.v (.agg (sndL c.s).toArray)),(20,.v (.int .i64 g.ack))] 74 [.agg (sndL c.s).toArray,.int .i64 g.ack] (some 21) rfl (xc_b fun ww hf => ysAcked_c c.s g.ack ww  ) ?_
 intro _
 refine kEA [2,3,4,5,6,7] [(6,.p 4 0),(7,.v (.bool ((acked c.s g.ack).2)))] [⟨38,sndL (acked c.s g.ack).1⟩] ?_
 refine kS ?_
 refine xw_joinF (α := {zz : Con // (fun (m : Con) => m = heardMid c g) zz}) (fun zz => (fun (m : Con) => (⟨[(2,.p 0 0),(3,.p 1 0),(4,.p 2 0),(5,.p 3 0)],[⟨44,conL c (.slice Z c.r.held.length Y)⟩,⟨50,segL g⟩,⟨44,conZ⟩,⟨44,conL m (.slice v1a m.r.held.length v1c)⟩,⟨38,sndL (acked c.s g.ack).1⟩],[],[ownF w.heap.size (.slice v1a m.r.held.length v1c) 2 (m.r.held.map pC),slF (.slice Z c.r.held.length Y) 2 (c.r.held.map pC)]⟩ : St)) zz.1) ?_ ?_
 refine kQ ?_
 refine kED [2,3,4,5,6,24] [(24,.v (.bool ((acked c.s g.ack).2)))] ?_
 refine kC ((acked c.s g.ack).2) (fun h3 => ?_) (fun h3 => ?_)
 refine kQ ?_
 refine kEU [2,3,4,5,6] [] 3 ⟨44,conL { c with s := (acked c.s g.ack).1 } (.slice v1a c.r.held.length v1c)⟩ ?_
 refine kS ?_
 refine xe_region0 [true,true,true,false,true] (by kernel_rfl) (fun ρ σ => ?_)
 refine kTS [0,1,2,3,4] [31,28,2,3,4,5,6] 6 [(31,.v (.int .i64 c.o.scale)),(28,.v (.int .i64 g.window)),(2,.p 0 0),(3,.p 1 0),(4,.p 2 0),(5,.p 3 0),(6,.p 4 0)] ?_
 refine kA [5] ?_
 refine kSC 5 76 [.int .i64 0,.int .i64 c.o.scale] (some 32) rfl (xc_s fun ww hf => l1Max_c 0 c.o.scale ww ) ?_
 intro _
 refine kTS [6] [33,28,2,3,4,5,6] 4 [(33,.v (.int .u64 (IntKind.u64.wrap (max 0 c.o.scale)))),(28,.v (.int .i64 g.window)),(2,.p 0 0),(3,.p 1 0),(4,.p 2 0),(5,.p 3 0),(6,.p 4 0)] ?_
 refine xe_nv [33,28,2,3,4,5,6] [(33,.v (.int .u64 (IntKind.u64.wrap (max 0 c.o.scale))))] [(33,.v (.int .u64 (max 0 c.o.scale)))] (by rw [show (IntKind.u64.wrap (max 0 c.o.scale)) = (max 0 c.o.scale) from u64_id (by omega) (by omega)]) (by kernel_rfl) ?_
 refine kX 7 (.int .i64 (IntKind.i64.wrap (g.window * 2 ^ (max 0 c.o.scale).toNat))) rfl (fun _ _ ww hA => act_bin hA rfl (by kernel_rfl) (by kernel_rfl) (shl_run (k' := .u64) (by have e : ((IntKind.i64.bits : Nat) : Int) = 64 := rfl; (try rw [u64_id (by omega) (by omega)]); omega) (by have e : ((IntKind.i64.bits : Nat) : Int) = 64 := rfl; (try rw [u64_id (by omega) (by omega)]); omega) ww)) ?_
 refine xe_nv [34,33,28,2,3,4,5,6] [(34,.v (.int .i64 (IntKind.i64.wrap (g.window * 2 ^ (max 0 c.o.scale).toNat))))] [(34,.v (.int .i64 (farW g.window c.o)))] (by rw [show (IntKind.i64.wrap (g.window * 2 ^ (max 0 c.o.scale).toNat)) = (farW g.window c.o) from (by unfold farW; exact far_wrap (by omega) (by omega) (by omega) (by omega))]) (by kernel_rfl) ?_
 refine kA [8] ?_
 refine kSC 8 75 [.int .i64 1073725440,.int .i64 (farW g.window c.o)] (some 35) rfl (xc_s fun ww hf => l1Min_c 1073725440 (farW g.window c.o) ww ) ?_
 intro _
 refine xe_nv [35,34,33,28,2,3,4,5,6] [(35,.v (.int .i64 (min 1073725440 (farW g.window c.o))))] [(35,.v (.int .i64 (farW g.window c.o)))] (by rw [show (min 1073725440 (farW g.window c.o)) = (farW g.window c.o) from (by omega)]) (by kernel_rfl) ?_
 refine kTS [9] [36,35,2,3,4,5,6] 1 [(36,.p 3 15),(35,.v (.int .i64 (farW g.window c.o))),(2,.p 0 0),(3,.p 1 0),(4,.p 2 0),(5,.p 3 0),(6,.p 4 0)] ?_
 refine kA [10] ?_
 refine kSS 10 3 15 [.int .i64 (farW g.window c.o)] rfl ?_
 refine kZ ?_
 refine kQ ?_
 refine kCD 4 [2,3,4,5,6,38,40] [(38,.v (.int .i64 c.most)),(40,.v (.int .i64 (farW g.window c.o)))] 76 [.int .i64 c.most,.int .i64 (farW g.window c.o)] (some 41) rfl (xc_s fun ww hf => l1Max_c c.most (farW g.window c.o) ww ) ?_
 intro _
 refine kEU [2,3,4,5,6] [] 3 ⟨44,conL { c with s := (acked c.s g.ack).1,window := farW g.window c.o,most := max c.most (farW g.window c.o) } (.slice v1a c.r.held.length v1c)⟩ ?_
 refine kQ ?_
 refine kCD 1 [2,3,4,5,6,43] [(43,.v (.agg (sndL (acked c.s g.ack).1).toArray))] 77 [.agg (sndL (acked c.s g.ack).1).toArray] (some 44) rfl (xc_b fun ww hf => sFlown_c ((acked c.s g.ack).1.una) ((acked c.s g.ack).1.data) ((acked c.s g.ack).1.sent) ((acked c.s g.ack).1.fin) ((acked c.s g.ack).1.finSent) ((acked c.s g.ack).1.done) ww ) ?_
 intro _
 refine kED [2,3,4,5,6,8] [(8,.v (.int .i64 (flown ((acked c.s g.ack).1))))] ?_
 refine kQ ?_
 refine kRD 7 [2,3,4,5,8,51] [(51,.v (.bool (((acked c.s g.ack).1.una) != c.s.una)))] ?_
 refine kP 51 (((acked c.s g.ack).1.una) != c.s.una) (fun h4 => ?_) (fun h4 => ?_)
 have h4p := neT h4
 refine kED [2,3,4,5,8,59] [(59,.v (.bool (c.state != 7)))] ?_
 refine kC (c.state != 7) (fun h5 => ?_) (fun h5 => ?_)
 have h5p := neT h5
 refine kQ ?_
 refine kEU [2,3,4,5,8] [] 3 ⟨44,conL { c with s := (acked c.s g.ack).1,window := farW g.window c.o,most := max c.most (farW g.window c.o),tries := 0 } (.slice v1a c.r.held.length v1c)⟩ ?_
 refine kQ ?_
 refine kEU [2,3,4,5,8] [] 3 ⟨44,[.int .i64 c.t.ip,.int .i64 c.t.port,.int .i64 c.t.my,.int .i64 c.state,.int .i64 ((acked c.s g.ack).1.una),.string ((acked c.s g.ack).1.data),.int .i64 ((acked c.s g.ack).1.sent),.bool ((acked c.s g.ack).1.fin),.bool ((acked c.s g.ack).1.finSent),.bool ((acked c.s g.ack).1.done),.int .i64 c.r.next,.string c.r.data,.slice v1a c.r.held.length v1c,.int .i64 c.r.fin,.bool c.r.done,.int .i64 (farW g.window c.o),.int .i64 (max c.most (farW g.window c.o)),.int .i64 c.o.mss,.int .i64 c.o.scale,.bool c.o.sack,.bool c.o.stamp,.int .i64 c.o.val,.int .i64 c.o.echo,.int .i64 0,.int .i64 0]⟩ ?_
 refine kQ ?_
 refine kED [2,3,4,5,63] [(63,.v (.bool (decide ((flown ((acked c.s g.ack).1)) > 0))))] ?_
 refine kC (decide ((flown ((acked c.s g.ack).1)) > 0)) (fun h6 => ?_) (fun h6 => ?_)
 have h6p := of_decide_eq_true h6
 refine kG ?_
 refine kEU [2,3,4,5] [] 3 ⟨44,[.int .i64 c.t.ip,.int .i64 c.t.port,.int .i64 c.t.my,.int .i64 c.state,.int .i64 ((acked c.s g.ack).1.una),.string ((acked c.s g.ack).1.data),.int .i64 ((acked c.s g.ack).1.sent),.bool ((acked c.s g.ack).1.fin),.bool ((acked c.s g.ack).1.finSent),.bool ((acked c.s g.ack).1.done),.int .i64 c.r.next,.string c.r.data,.slice v1a c.r.held.length v1c,.int .i64 c.r.fin,.bool c.r.done,.int .i64 (farW g.window c.o),.int .i64 (max c.most (farW g.window c.o)),.int .i64 c.o.mss,.int .i64 c.o.scale,.bool c.o.sack,.bool c.o.stamp,.int .i64 c.o.val,.int .i64 c.o.echo,.int .i64 3,.int .i64 0]⟩ ?_
 exact ⟨⟨(⟨c.t,c.state,(acked c.s g.ack).1,c.r,farW g.window c.o,max c.most (farW g.window c.o),c.o,3,0⟩),(by unfold heardMid; first | (simp [*]; done) | grind)⟩,kF 5 0 [2,3,4,5]⟩
 have h6p := of_decide_eq_false h6
 refine kK ?_
 exact ⟨⟨(⟨c.t,c.state,(acked c.s g.ack).1,c.r,farW g.window c.o,max c.most (farW g.window c.o),c.o,0,0⟩),(by unfold heardMid; first | (simp [*]; done) | grind)⟩,kF 5 0 [2,3,4,5]⟩
 have h5p := neF h5
 refine kK ?_
 exact ⟨⟨({ c with s := (acked c.s g.ack).1,window := farW g.window c.o,most := max c.most (farW g.window c.o) }),(by unfold heardMid; first | (simp [*]; done) | grind)⟩,kF 5 0 [2,3,4,5]⟩
 have h4p := neF h4
 refine kRD 4 [2,3,4,5,8,55] [(55,.v (.bool ((flown ((acked c.s g.ack).1)) == 0)))] ?_
 refine kP 55 ((flown ((acked c.s g.ack).1)) == 0) (fun h7 => ?_) (fun h7 => ?_)
 have h7p := eqT h7
 refine kED [2,3,4,5,8,59] [(59,.v (.bool (c.state != 7)))] ?_
 refine kC (c.state != 7) (fun h8 => ?_) (fun h8 => ?_)
 have h8p := neT h8
 refine kQ ?_
 refine kEU [2,3,4,5,8] [] 3 ⟨44,conL { c with s := (acked c.s g.ack).1,window := farW g.window c.o,most := max c.most (farW g.window c.o),tries := 0 } (.slice v1a c.r.held.length v1c)⟩ ?_
 refine kQ ?_
 refine kEU [2,3,4,5,8] [] 3 ⟨44,[.int .i64 c.t.ip,.int .i64 c.t.port,.int .i64 c.t.my,.int .i64 c.state,.int .i64 ((acked c.s g.ack).1.una),.string ((acked c.s g.ack).1.data),.int .i64 ((acked c.s g.ack).1.sent),.bool ((acked c.s g.ack).1.fin),.bool ((acked c.s g.ack).1.finSent),.bool ((acked c.s g.ack).1.done),.int .i64 c.r.next,.string c.r.data,.slice v1a c.r.held.length v1c,.int .i64 c.r.fin,.bool c.r.done,.int .i64 (farW g.window c.o),.int .i64 (max c.most (farW g.window c.o)),.int .i64 c.o.mss,.int .i64 c.o.scale,.bool c.o.sack,.bool c.o.stamp,.int .i64 c.o.val,.int .i64 c.o.echo,.int .i64 0,.int .i64 0]⟩ ?_
 refine kQ ?_
 refine kED [2,3,4,5,63] [(63,.v (.bool (decide ((flown ((acked c.s g.ack).1)) > 0))))] ?_
 refine kC (decide ((flown ((acked c.s g.ack).1)) > 0)) (fun h9 => ?_) (fun h9 => ?_)
 have h9p := of_decide_eq_true h9
 refine kG ?_
 refine kEF [2,3,4,5] ⟨[(2,.p 0 0),(3,.p 1 0),(4,.p 2 0),(5,.p 3 0)],[⟨44,conL c (.slice Z c.r.held.length Y)⟩,⟨50,segL g⟩,⟨44,conZ⟩,⟨44,[.int .i64 c.t.ip,.int .i64 c.t.port,.int .i64 c.t.my,.int .i64 c.state,.int .i64 ((acked c.s g.ack).1.una),.string ((acked c.s g.ack).1.data),.int .i64 ((acked c.s g.ack).1.sent),.bool ((acked c.s g.ack).1.fin),.bool ((acked c.s g.ack).1.finSent),.bool ((acked c.s g.ack).1.done),.int .i64 c.r.next,.string c.r.data,.slice v1a c.r.held.length v1c,.int .i64 c.r.fin,.bool c.r.done,.int .i64 (farW g.window c.o),.int .i64 (max c.most (farW g.window c.o)),.int .i64 c.o.mss,.int .i64 c.o.scale,.bool c.o.sack,.bool c.o.stamp,.int .i64 c.o.val,.int .i64 c.o.echo,.int .i64 3,.int .i64 0]⟩,⟨38,sndL (acked c.s g.ack).1⟩],[],[ownF w.heap.size (.slice v1a c.r.held.length v1c) 2 (c.r.held.map pC),slF (.slice Z c.r.held.length Y) 2 (c.r.held.map pC)]⟩ ?_
 exact ⟨⟨(⟨c.t,c.state,(acked c.s g.ack).1,c.r,farW g.window c.o,max c.most (farW g.window c.o),c.o,3,0⟩),(by unfold heardMid; first | (simp [*]; done) | grind)⟩,kF 5 0 [2,3,4,5]⟩
 have h9p := of_decide_eq_false h9
 refine kK ?_
 exact ⟨⟨(⟨c.t,c.state,(acked c.s g.ack).1,c.r,farW g.window c.o,max c.most (farW g.window c.o),c.o,0,0⟩),(by unfold heardMid; first | (simp [*]; done) | grind)⟩,kF 5 0 [2,3,4,5]⟩
 have h8p := neF h8
 refine kK ?_
 exact ⟨⟨({ c with s := (acked c.s g.ack).1,window := farW g.window c.o,most := max c.most (farW g.window c.o) }),(by unfold heardMid; first | (simp [*]; done) | grind)⟩,kF 5 0 [2,3,4,5]⟩
 have h7p := eqF h7
 refine kED [2,3,4,5,8,59] [(59,.v (.bool false))] ?_
 refine kN ?_
 refine kK ?_
 exact ⟨⟨({ c with s := (acked c.s g.ack).1,window := farW g.window c.o,most := max c.most (farW g.window c.o) }),(by unfold heardMid; first | (simp [*]; done) | grind)⟩,kF 5 0 [2,3,4,5]⟩
 refine kK ?_
 exact ⟨⟨(c),(by unfold heardMid; first | (simp [*]; done) | grind)⟩,kF 5 0 [2,3,4,5]⟩
 rintro ⟨m,hm5⟩
 try dsimp only
 try dsimp only at hm5
 have hmr : m.r = c.r := by rw [hm5]; exact (heardMid_eq c g).1
 have hm1 : m.r.held.length ≤ 1048576 := by rw [hmr]; exact hkn
 have hm2 : ∀ p ∈ m.r.held,p.text.size ≤ 1048576 := by rw [hmr]; exact hm
 have hm3 : m.r.data.size ≤ 4611686018427387904 := by rw [hmr]; exact hsz
 refine kS ?_
 refine kQ ?_
 refine kCD 2 [2,3,4,5,66] [(66,.v (.int .i64 c.state))] 67 [.int .i64 c.state,.int .i64 1,.int .i64 3] (some 67) rfl (xc_s fun ww hf => l1In_c c.state 1 3 ww ) ?_
 intro _
 refine kED [2,3,4,5,67] [] ?_
 refine kC (inB c.state 1 3) (fun h10 => ?_) (fun h10 => ?_)
 have h10i := inB_tt.1 (show inB c.state 1 3 = true from by simpa using h10)
 refine xe_region0 [true,true,true,false,true] (by kernel_rfl) (fun ρ σ => ?_)
 refine kTS [0,1,2,3,4,5,6] [74,73,71,69,4,5] 4 [(74,.v (.agg (segL g).toArray)),(73,.v (.string g.body)),(71,.v (.int .i64 g.seq)),(69,.v (.agg (rcvL c.r (.slice Z c.r.held.length Y)).toArray)),(4,.p 2 0),(5,.p 3 0)] ?_
 refine kA [7] ?_
 refine kSC 7 34 [.agg (segL g).toArray,.int .i64 1] (some 75) rfl (xc_b fun ww hf => sHas_c g.src g.dst g.seq g.ack g.flags g.window g.o.mss g.o.scale g.o.sack g.o.stamp g.o.val g.o.echo g.body 1 ww ) ?_
 intro _
 refine kA [8] ?_
 refine kSC 8 78 [.agg (rcvL c.r (.slice Z c.r.held.length Y)).toArray,.int .i64 g.seq,.string g.body,.bool (hasF g.flags 1)] (some 76) rfl (xc_r fun ww hw hf => ysArrived_c c.r (.slice Z c.r.held.length Y) g.seq g.body (hasF g.flags 1) ww (hf _ m1) (by assumption) (by assumption) (by omega) (by omega) w.heap.size hw) ?_
 rintro ⟨v11a,v11c⟩
 have hz12 := arrived_sz (H := 1048576) (T := 1048576) (D := 4611686018427387904) (r := c.r) (seq := g.seq) (t := g.body) (fin := (hasF g.flags 1)) (by assumption) (by assumption) (by assumption) (by omega) (by omega) (by omega)
 obtain ⟨hz12a,hz12b,hz12c⟩ := hz12
 refine kTS [9] [77,76,4,5] 1 [(77,.p 3 10),(76,.v (.agg (rcvL (arrived c.r g.seq g.body (hasF g.flags 1)) (.slice v11a ((arrived c.r g.seq g.body (hasF g.flags 1)).held.length) v11c)).toArray)),(4,.p 2 0),(5,.p 3 0)] ?_
 refine kA [10] ?_
 refine kSS 10 3 10 (rcvL (arrived c.r g.seq g.body (hasF g.flags 1)) (.slice v11a ((arrived c.r g.seq g.body (hasF g.flags 1)).held.length) v11c)) rfl ?_
 refine kZ ?_
 refine kQ ?_
 refine kCD 1 [4,78] [(78,.v (.agg (conL { m with r := (arrived c.r g.seq g.body (hasF g.flags 1)) } (.slice v11a ((arrived c.r g.seq g.body (hasF g.flags 1)).held.length) v11c)).toArray))] 79 [.agg (conL { m with r := (arrived c.r g.seq g.body (hasF g.flags 1)) } (.slice v11a ((arrived c.r g.seq g.body (hasF g.flags 1)).held.length) v11c)).toArray] (some 79) rfl (xc_r fun ww hw hf => ysTurned_c ({ m with r := (arrived c.r g.seq g.body (hasF g.flags 1)) }) (.slice v11a ((arrived c.r g.seq g.body (hasF g.flags 1)).held.length) v11c) ww (rowF_sl (hf _ m0)) (by assumption) (by assumption) (by omega) w.heap.size hw) ?_
 rintro ⟨v13a,v13c⟩
 have hbd14 : (turned ({ m with r := (arrived c.r g.seq g.body (hasF g.flags 1)) })).r.held.length ≤ 1048576 := turned_bd _  (by omega)
 refine kEU [4] [(4,.p 2 0)] 2 ⟨44,conL (turned ({ m with r := (arrived c.r g.seq g.body (hasF g.flags 1)) })) (.slice v13a ((turned ({ m with r := (arrived c.r g.seq g.body (hasF g.flags 1)) })).r.held.length) v13c)⟩ ?_
 refine kR ?_
 have hmod : heard c g = (turned ({ m with r := (arrived c.r g.seq g.body (hasF g.flags 1)) })) := by first | (unfold heard; rw [if_pos hv5,← hm5]; unfold heardR; rw [if_pos (by assumption)]; done) | (unfold heard; rw [if_pos hv5,← hm5]; unfold heardR; rw [if_neg (by simp [*]; done),← hmr]; done) | (unfold heard; rw [if_neg hv5]; done)
 exact ⟨[.agg (conL (turned ({ m with r := (arrived c.r g.seq g.body (hasF g.flags 1)) })) (.slice v13a ((turned ({ m with r := (arrived c.r g.seq g.body (hasF g.flags 1)) })).r.held.length) v13c)).toArray],by kernel_rfl,fun w' hb hf ha => by rw [hmod]; exact xo1 ((v13a,v13c)) rfl rfl (pO (hf _ m0) hB) hb⟩
 have h10i := inB_ff.1 (show inB c.state 1 3 = false from by simpa using h10)
 refine kK ?_
 refine kQ ?_
 refine kCD 1 [4,78] [(78,.v (.agg (conL m (.slice v1a m.r.held.length v1c)).toArray))] 79 [.agg (conL m (.slice v1a m.r.held.length v1c)).toArray] (some 79) rfl (xc_r fun ww hw hf => ysTurned_c m (.slice v1a m.r.held.length v1c) ww (Own.sl (hf _ m0)) (by assumption) (by assumption) (by omega) w.heap.size hw) ?_
 rintro ⟨v15a,v15c⟩
 have hbd16 : (turned m).r.held.length ≤ 1048576 := turned_bd _  (by omega)
 refine kEU [4] [(4,.p 2 0)] 2 ⟨44,conL (turned m) (.slice v15a ((turned m).r.held.length) v15c)⟩ ?_
 refine kR ?_
 have hmod : heard c g = (turned m) := by first | (unfold heard; rw [if_pos hv5,← hm5]; unfold heardR; rw [if_pos (by assumption)]; done) | (unfold heard; rw [if_pos hv5,← hm5]; unfold heardR; rw [if_neg (by simp [*]; done),← hmr]; done) | (unfold heard; rw [if_neg hv5]; done)
 exact ⟨[.agg (conL (turned m) (.slice v15a ((turned m).r.held.length) v15c)).toArray],by kernel_rfl,fun w' hb hf ha => by rw [hmod]; exact xo1 ((v15a,v15c)) rfl rfl (pO (hf _ m0) hB) hb⟩
theorem ysReceive_c (c : Con) (rV : Value) (g : Seg) (w : World) (hZ : Sl w rV 2 (c.r.held.map pC)) (hkn : c.r.held.length ≤ 1048576)(hgz : g.body.size ≤ 1048576) (hm : ∀ p ∈ c.r.held, p.text.size ≤ 1048576) (hsz : c.r.data.size ≤ 4611686018427387904) (B : Nat) (hB : B ≤ w.heap.size) : Calls Tryz.prog 8 #[.agg (conL c rV).toArray, .agg (segL g).toArray] w fun e w' => XRs w w' e (α := (Option Addr × Nat) × (Option Addr × Nat)) (fun y => .tuple #[.agg (conL (received c g).1 (.slice y.1.1 ((received c g).1.r.held.length) y.1.2)).toArray, .slice y.2.1 ((received c g).2.1.length) y.2.2, .int .i64 ((received c g).2.2)]) (fun y => [ownF B (.slice y.1.1 ((received c g).1.r.held.length) y.1.2) 2 ((received c g).1.r.held.map pC), ownF B (.slice y.2.1 ((received c g).2.1.length) y.2.2) 13 ((received c g).2.1.map segCells)]) := by
 obtain ⟨Z,Y,hY⟩ := hZ.form
 rw [List.length_map] at hY; subst hY
 have hJ := hZ.len; rw [List.length_map] at hJ
 have hqcrh := Sl.capLe hZ
 refine x_callsA (args := [.agg (conL c (.slice Z c.r.held.length Y)).toArray,.agg (segL g).toArray]) (fn := Tryz.f8) [slF (.slice Z c.r.held.length Y) 2 (c.r.held.map pC)] Tryz.func8 rfl Tryz.ntmps8 rfl (by simp only [List.mem_cons,List.not_mem_nil,or_false,forall_eq_or_imp,forall_eq]; exact ⟨rfl,hZ⟩) ?_
 refine kQ ?_
 refine kEF [2,3,4] ⟨[(2,.p 0 0),(3,.p 1 0),(4,.p 2 0)],[⟨44,conL c (.slice Z c.r.held.length Y)⟩,⟨50,segL g⟩,⟨44,conZ⟩],[],[slF (.slice Z c.r.held.length Y) 2 (c.r.held.map pC)]⟩ ?_
 refine kQ ?_
 refine kCD 1 [2,3,4,13] [(13,.v (.agg (conL c (.slice Z c.r.held.length Y)).toArray))] 33 [.agg (conL c (.slice Z c.r.held.length Y)).toArray] (some 14) rfl (xc_r fun ww hw hf => yl19Copy_c c (.slice Z c.r.held.length Y) ww (hf _ m0) (by assumption) w.heap.size hw) ?_
 rintro ⟨v1a,v1c⟩
 refine kEA [2,3,4,7] [(7,.p 3 0)] [⟨44,conL c (.slice v1a c.r.held.length v1c)⟩] ?_
 refine kQ ?_
 refine kHD 0 [2,3,4,7] [] rfl (hv_build (e := 50) (K := 13) (bytes := 104) [] rfl (by kernel_rfl) (by kernel_rfl) (by kernel_rfl) (by kernel_rfl) (by kernel_rfl) (rs := ([] : List Seg).map segCells) rfl) ?_
 intro g2
 refine kED [2,3,4,7,8] [(8,.v (.slice (some ⟨g2,0,none⟩) 0 0))] ?_
 refine kQ ?_
 refine kCD 2 [2,3,4,7,8,16,17] [(16,.v (.agg (conL c (.slice Z c.r.held.length Y)).toArray)),(17,.v (.agg (segL g).toArray))] 29 [.agg (conL c (.slice Z c.r.held.length Y)).toArray,.agg (segL g).toArray] (some 18) rfl (xc_b fun ww hf => ysVerdict_c c (.slice Z c.r.held.length Y) g ww (hf _ m2) (by omega) (by assumption) (by omega)) ?_
 intro _
 refine kED [2,3,4,7,8,9] [(9,.v (.int .i64 (verdict c g)))] ?_
 refine kS ?_
 refine kQ ?_
 refine kED [2,3,4,7,8,9,19] [(19,.v (.int .i64 (verdict c g)))] ?_
 refine xw_block ?_
 refine kQ ?_
 refine kED [2,3,4,7,8,9,19,20] [(20,.v (.bool ((verdict c g) == 1)))] ?_
 refine kC ((verdict c g) == 1) (fun h3 => ?_) (fun h3 => ?_)
 have h3p := eqT h3
 refine kQ ?_
 refine kEU [4,5,6] [(5,.v (.slice (some ⟨g2,0,none⟩) 0 0)),(6,.v (.int .i64 (verdict c g)))] 2 ⟨44,conL c (.slice v1a c.r.held.length v1c)⟩ ?_
 refine kR ?_
 have hmod : received c g = (c,([] : List Seg),(verdict c g)) := by first | (simp [received,answered,ackOf, *]; done) | grind [received,answered,ackOf]
 exact ⟨[.agg (conL c (.slice v1a c.r.held.length v1c)).toArray,.slice (some ⟨g2,0,none⟩) 0 0,.int .i64 (verdict c g)],by kernel_rfl,fun w' hb hf ha => by rw [hmod]; exact xo2 ((v1a,v1c),(((some ⟨g2,0,none⟩) : Option Addr),0)) rfl rfl (pO (hf _ m1) hB) (pR (hf _ m0) hB) (Apart.sub2 ha (i := 1) (j := 0) rfl rfl (by decide) rfl (fun b h => h) (fun b h => rowF_blk h)) hb⟩
 have h3p := eqF h3
 refine kQ ?_
 refine kED [2,3,4,7,8,9,19,25] [(25,.v (.bool ((verdict c g) == 2)))] ?_
 refine kC ((verdict c g) == 2) (fun h4 => ?_) (fun h4 => ?_)
 have h4p := eqT h4
 refine kQ ?_
 refine kEU [4,7,8,9] [] 3 ⟨44,conL { c with state := 8 } (.slice v1a c.r.held.length v1c)⟩ ?_
 refine kQ ?_
 refine kEF [4,7,8,9] ⟨[(4,.p 2 0),(7,.p 3 0),(8,.v (.slice (some ⟨g2,0,none⟩) 0 0)),(9,.v (.int .i64 (verdict c g)))],[⟨44,conL c (.slice Z c.r.held.length Y)⟩,⟨50,segL g⟩,⟨44,conZ⟩,⟨44,conL { c with state := 8,timer := 0 } (.slice v1a c.r.held.length v1c)⟩],[],[rowF w.heap.size 50 13 (.slice (some ⟨g2,0,none⟩) 0 0) (([] : List Seg).map segCells),ownF w.heap.size (.slice v1a c.r.held.length v1c) 2 (c.r.held.map pC),slF (.slice Z c.r.held.length Y) 2 (c.r.held.map pC)]⟩ ?_
 refine kQ ?_
 refine kEU [4,7,8,9] [] 3 ⟨44,conL { c with state := 8,timer := 0,tries := 0 } (.slice v1a c.r.held.length v1c)⟩ ?_
 refine kQ ?_
 refine kEU [4,5,6] [(5,.v (.slice (some ⟨g2,0,none⟩) 0 0)),(6,.v (.int .i64 (verdict c g)))] 2 ⟨44,conL { c with state := 8,timer := 0,tries := 0 } (.slice v1a c.r.held.length v1c)⟩ ?_
 refine kR ?_
 have hmod : received c g = (({ c with state := 8,timer := 0,tries := 0 }),([] : List Seg),(verdict c g)) := by first | (simp [received,answered,ackOf, *]; done) | grind [received,answered,ackOf]
 exact ⟨[.agg (conL { c with state := 8,timer := 0,tries := 0 } (.slice v1a c.r.held.length v1c)).toArray,.slice (some ⟨g2,0,none⟩) 0 0,.int .i64 (verdict c g)],by kernel_rfl,fun w' hb hf ha => by rw [hmod]; exact xo2 ((v1a,v1c),(((some ⟨g2,0,none⟩) : Option Addr),0)) rfl rfl (pO (hf _ m1) hB) (pR (hf _ m0) hB) (Apart.sub2 ha (i := 1) (j := 0) rfl rfl (by decide) rfl (fun b h => h) (fun b h => rowF_blk h)) hb⟩
 have h4p := eqF h4
 refine kS ?_
 refine kQ ?_
 refine kED [2,3,4,7,8,9,19,33] [(33,.v (.bool ((verdict c g) == 3)))] ?_
 refine kC ((verdict c g) == 3) (fun h5 => ?_) (fun h5 => ?_)
 have h5p := eqT h5
 refine kK ?_
 refine kC ((verdict c g) == 3) (fun h6 => ?_) (fun h6 => ?_)
 have h6p := eqT h6
 refine kS ?_
 refine xw_joinF (α := {zz : Int // (fun (tm : Int) => tm = if verdict c g = 4 ∧ c.state = 7 ∧ hasF g.flags 1 = true then 4 else c.timer) zz}) (fun zz => (fun (tm : Int) => (⟨[(2,.p 0 0),(4,.p 2 0),(7,.p 3 0),(9,.v (.int .i64 (verdict c g)))],[⟨44,conL c (.slice Z c.r.held.length Y)⟩,⟨50,segL g⟩,⟨44,conZ⟩,⟨44,conL { c with timer := tm } (.slice v1a c.r.held.length v1c)⟩],[],[rowF w.heap.size 50 13 (.slice (some ⟨g2,0,none⟩) 0 0) (([] : List Seg).map segCells),ownF w.heap.size (.slice v1a c.r.held.length v1c) 2 (c.r.held.map pC),slF (.slice Z c.r.held.length Y) 2 (c.r.held.map pC)]⟩ : St)) zz.1) ?_ ?_
 refine kQ ?_
 refine kRS 3 [2,3,4,7,9,38] [(2,.p 0 0),(3,.p 1 0),(4,.p 2 0),(7,.p 3 0),(9,.v (.int .i64 (verdict c g))),(38,.v (.bool ((verdict c g) == 4)))] ?_
 refine kP 38 ((verdict c g) == 4) (fun h7 => ?_) (fun h7 => ?_)
 have h7p := eqT h7
 exfalso; omega
 have h7p := eqF h7
 refine kED [2,4,7,9,46] [(46,.v (.bool false))] ?_
 refine kN ?_
 refine kK ?_
 exact ⟨⟨(c.timer),(by first | (rw [if_neg (by rintro ⟨q1,q2,q3⟩; omega)]; done) | (rw [if_neg (by rintro ⟨q1,q2,q3⟩; simp_all; done)]; done) | (rw [if_pos ⟨by omega,by omega,by assumption⟩]; done))⟩,kF 4 0 [2,4,7,9]⟩
 rintro ⟨tm,htm⟩
 try dsimp only
 try dsimp only at htm
 refine kS ?_
 refine xw_joinE (α := Nat) (fun y => (fun (g9 : Nat) => (⟨[(4,.p 2 0),(5,.v (.slice (some ⟨g9,0,none⟩) 1 1)),(6,.v (.int .i64 (verdict c g)))],[⟨44,conL c (.slice Z c.r.held.length Y)⟩,⟨50,segL g⟩,⟨44,conL { c with timer := tm } (.slice v1a c.r.held.length v1c)⟩,⟨44,conL { c with timer := tm } (.slice v1a c.r.held.length v1c)⟩],[],[rowF w.heap.size 50 13 (.slice (some ⟨g9,0,none⟩) 1 1) (([⟨c.t.my,c.t.port,nextOf c.s,c.r.next,16,wO c.r,⟨0,(-1),false,false,0,0⟩,(⟨#[]⟩ : ByteArray)⟩] : List Seg).map segCells),rowF w.heap.size 50 13 (.slice (some ⟨g2,0,none⟩) 0 0) (([] : List Seg).map segCells),ownF w.heap.size (.slice v1a c.r.held.length v1c) 2 (c.r.held.map pC),slF (.slice Z c.r.held.length Y) 2 (c.r.held.map pC)]⟩ : St)) y) ?_ ?_
 refine xe_region0 [true,true,false,true] (by kernel_rfl) (fun ρ σ => ?_)
 refine kTS [0,1,4] [52,49,48,4] 5 [(52,.v (.int .i64 (verdict c g))),(49,.v (.agg (conL c (.slice Z c.r.held.length Y)).toArray)),(48,.v (.agg (conL { c with timer := tm } (.slice v1a c.r.held.length v1c)).toArray)),(4,.p 2 0)] ?_
 refine kA [2] ?_
 refine kSC 2 35 [.agg (conL c (.slice Z c.r.held.length Y)).toArray] (some 50) rfl (xc_b fun ww hf => sAckOf_c c.t.ip c.t.port c.t.my c.state c.s.una c.s.data c.s.sent c.s.fin c.s.finSent c.s.done c.r.next c.r.data c.r.held (.slice Z c.r.held.length Y) c.r.fin c.r.done c.window c.most c.o.mss c.o.scale c.o.sack c.o.stamp c.o.val c.o.echo c.timer c.tries ww (by omega)) ?_
 intro _
 refine kA [3,5] ⟨?_,?_⟩
 refine kSH 3 rfl (under_t (under_t (under_f rfl (under_t under_nil)))) (hv_build (e := 50) (K := 13) (bytes := 104) [.agg #[.int .i64 c.t.my,.int .i64 c.t.port,.int .i64 (nextOf c.s),.int .i64 c.r.next,.int .i64 16,.int .i64 (wO c.r),.int .i64 0,.int .i64 (-1),.bool false,.bool false,.int .i64 0,.int .i64 0,.string (⟨#[]⟩ : ByteArray)]] rfl (by kernel_rfl) (by kernel_rfl) (by kernel_rfl) (by kernel_rfl) (by kernel_rfl) (rs := ([⟨c.t.my,c.t.port,nextOf c.s,c.r.next,16,wO c.r,⟨0,(-1),false,false,0,0⟩,(⟨#[]⟩ : ByteArray)⟩] : List Seg).map segCells) rfl) ?_
 intro g9
 refine kA [5] ?_
 refine kSS 5 2 0 (conL { c with timer := tm } (.slice v1a c.r.held.length v1c)) rfl ?_
 refine kTD [6,7] [6,5,4] 0 [(6,.v (.int .i64 (verdict c g))),(5,.v (.slice (some ⟨g9,0,none⟩) 1 1))] ?_
 refine kZ ?_
 exact ⟨(g9),kF 4 0 [4,5,6]⟩
 refine kSS 5 2 0 (conL { c with timer := tm } (.slice v1a c.r.held.length v1c)) rfl ?_
 refine kA [3] ?_
 refine kSH 3 rfl (under_t (under_t (under_f rfl (under_t under_nil)))) (hv_build (e := 50) (K := 13) (bytes := 104) [.agg #[.int .i64 c.t.my,.int .i64 c.t.port,.int .i64 (nextOf c.s),.int .i64 c.r.next,.int .i64 16,.int .i64 (wO c.r),.int .i64 0,.int .i64 (-1),.bool false,.bool false,.int .i64 0,.int .i64 0,.string (⟨#[]⟩ : ByteArray)]] rfl (by kernel_rfl) (by kernel_rfl) (by kernel_rfl) (by kernel_rfl) (by kernel_rfl) (rs := ([⟨c.t.my,c.t.port,nextOf c.s,c.r.next,16,wO c.r,⟨0,(-1),false,false,0,0⟩,(⟨#[]⟩ : ByteArray)⟩] : List Seg).map segCells) rfl) ?_
 intro g11
 refine kTD [6,7] [6,5,4] 0 [(6,.v (.int .i64 (verdict c g))),(5,.v (.slice (some ⟨g11,0,none⟩) 1 1))] ?_
 refine kZ ?_
 exact ⟨(g11),kF 4 0 [4,5,6]⟩
 intro g9
 refine kR ?_
 have hmod : received c g = (({ c with timer := tm }),([⟨c.t.my,c.t.port,nextOf c.s,c.r.next,16,wO c.r,⟨0,(-1),false,false,0,0⟩,(⟨#[]⟩ : ByteArray)⟩] : List Seg),(verdict c g)) := by first | (have hv4 : verdict c g = 4 := (by assumption); exact (received_ack hv4 htm).trans (by rw [hv4]; first | done | rfl)) | (have hv3 : verdict c g = 3 := (by assumption); exact (received_chal hv3 htm).trans (by rw [hv3]; first | done | rfl))
 exact ⟨[.agg (conL { c with timer := tm } (.slice v1a c.r.held.length v1c)).toArray,.slice (some ⟨g9,0,none⟩) 1 1,.int .i64 (verdict c g)],by kernel_rfl,fun w' hb hf ha => by rw [hmod]; exact xo2 ((v1a,v1c),(((some ⟨g9,0,none⟩) : Option Addr),1)) rfl rfl (pO (hf _ m2) hB) (pR (hf _ m0) hB) (Apart.sub2 ha (i := 2) (j := 0) rfl rfl (by decide) rfl (fun b h => h) (fun b h => rowF_blk h)) hb⟩
 have h6p := eqF h6
 refine kK ?_
 refine kQ ?_
 refine kCS 2 [3,4,7,8,9,53,54] [(3,.p 1 0),(4,.p 2 0),(7,.p 3 0),(8,.v (.slice (some ⟨g2,0,none⟩) 0 0)),(9,.v (.int .i64 (verdict c g))),(53,.v (.agg (conL c (.slice Z c.r.held.length Y)).toArray)),(54,.v (.agg (segL g).toArray))] 28 [.agg (conL c (.slice Z c.r.held.length Y)).toArray,.agg (segL g).toArray] (some 55) rfl (xc_r fun ww hw hf => ysHeard_c c (.slice Z c.r.held.length Y) g ww (hf _ m2) (by assumption) (by omega) (by assumption) (by omega) w.heap.size hw) ?_
 rintro ⟨v12a,v12c⟩
 have hv5 : verdict c g = 5 := by have := verdict_rng c g; omega
 have hhw := heard_w hv5
 have hz13 := heard_sz (H := 1048576) (T := 1048576) (D := 4611686018427387904) (c := c) (g := g) (by assumption) (by assumption) (by assumption) (by omega) (by omega) (by omega)
 obtain ⟨hz13a,hz13b,hz13c⟩ := hz13
 refine kEU [3,4,7,8,9] [] 3 ⟨44,conL (heard c g) (.slice v12a ((heard c g).r.held.length) v12c)⟩ ?_
 refine kS ?_
 refine kQ ?_
 refine kED [3,4,7,8,9,58] [(58,.v (.bool (((heard c g).state) == 8)))] ?_
 refine kC (((heard c g).state) == 8) (fun h14 => ?_) (fun h14 => ?_)
 have h14p := eqT h14
 refine kQ ?_
 refine kEU [4,5,6] [(5,.v (.slice (some ⟨g2,0,none⟩) 0 0)),(6,.v (.int .i64 (verdict c g)))] 2 ⟨44,conL (heard c g) (.slice v12a ((heard c g).r.held.length) v12c)⟩ ?_
 refine kR ?_
 have hmod : received c g = ((heard c g),([] : List Seg),(verdict c g)) := by first | (simp [received,answered,ackOf, *]; done) | grind [received,answered,ackOf]
 exact ⟨[.agg (conL (heard c g) (.slice v12a ((heard c g).r.held.length) v12c)).toArray,.slice (some ⟨g2,0,none⟩) 0 0,.int .i64 (verdict c g)],by kernel_rfl,fun w' hb hf ha => by rw [hmod]; exact xo2 ((v12a,v12c),(((some ⟨g2,0,none⟩) : Option Addr),0)) rfl rfl (pO (hf _ m0) hB) (pR (hf _ m1) hB) (Apart.sub2 ha (i := 0) (j := 1) rfl rfl (by decide) rfl (fun b h => h) (fun b h => rowF_blk h)) hb⟩
 have h14p := eqF h14
 refine kK ?_
 refine kQ ?_
 refine kCD 1 [3,4,7,9,62] [(62,.v (.agg (conL (heard c g) (.slice v12a ((heard c g).r.held.length) v12c)).toArray))] 35 [.agg (conL (heard c g) (.slice v12a ((heard c g).r.held.length) v12c)).toArray] (some 63) rfl (xc_b fun ww hf => sAckOf_c ((heard c g).t.ip) ((heard c g).t.port) ((heard c g).t.my) ((heard c g).state) ((heard c g).s.una) ((heard c g).s.data) ((heard c g).s.sent) ((heard c g).s.fin) ((heard c g).s.finSent) ((heard c g).s.done) ((heard c g).r.next) ((heard c g).r.data) ((heard c g).r.held) (.slice v12a ((heard c g).r.held.length) v12c) ((heard c g).r.fin) ((heard c g).r.done) ((heard c g).window) ((heard c g).most) ((heard c g).o.mss) ((heard c g).o.scale) ((heard c g).o.sack) ((heard c g).o.stamp) ((heard c g).o.val) ((heard c g).o.echo) ((heard c g).timer) ((heard c g).tries) ww (by omega)) ?_
 intro _
 refine kEA [3,4,7,9,10] [(10,.p 4 0)] [⟨50,[.int .i64 ((heard c g).t.my),.int .i64 ((heard c g).t.port),.int .i64 (nextOf ((heard c g).s)),.int .i64 ((heard c g).r.next),.int .i64 16,.int .i64 (wO ((heard c g).r)),.int .i64 0,.int .i64 (-1),.bool false,.bool false,.int .i64 0,.int .i64 0,.string (⟨#[]⟩ : ByteArray)]⟩] ?_
 refine kQ ?_
 refine kCD 3 [3,4,9,10,65,67] [(65,.v (.agg (conL (heard c g) (.slice v12a ((heard c g).r.held.length) v12c)).toArray)),(67,.v (.int .i64 ((heard c g).window)))] 36 [.agg (conL (heard c g) (.slice v12a ((heard c g).r.held.length) v12c)).toArray,.int .i64 ((heard c g).window)] (some 68) rfl (xc_r fun ww hw hf => ysPump_c (heard c g) (.slice v12a ((heard c g).r.held.length) v12c) ((heard c g).window) ww (Own.sl (hf _ m0)) (by assumption) (by assumption) (by omega) (by omega) w.heap.size hw) ?_
 rintro ⟨⟨v15a,v15c⟩,⟨v16a,v16c⟩⟩
 have hbd17 : (pump (heard c g) ((heard c g).window)).1.r.held.length ≤ 1048576 ∧ (pump (heard c g) ((heard c g).window)).2.length ≤ 49 := pump_bd _ _  (by omega)
 have hbd17a := hbd17.1; have hbd17b := hbd17.2
 refine kEA [3,4,9,10,11,12] [(11,.p 5 0),(12,.v (.slice v16a ((pump (heard c g) ((heard c g).window)).2.length) v16c))] [⟨44,conL (pump (heard c g) ((heard c g).window)).1 (.slice v15a ((pump (heard c g) ((heard c g).window)).1.r.held.length) v15c)⟩] ?_
 refine kS ?_
 refine kQ ?_
 refine kCD 1 [4,9,10,11,12,71] [(71,.v (.agg (segL g).toArray))] 37 [.agg (segL g).toArray] (some 72) rfl (xc_b fun ww hf => sSegmentLen_c g.src g.dst g.seq g.ack g.flags g.window g.o.mss g.o.scale g.o.sack g.o.stamp g.o.val g.o.echo g.body ww (by omega)) ?_
 intro _
 refine kRD 2 [4,9,10,11,12,74] [(74,.v (.bool (decide ((segLen g) > 0))))] ?_
 refine kP 74 (decide ((segLen g) > 0)) (fun h18 => ?_) (fun h18 => ?_)
 have h18p := of_decide_eq_true h18
 refine kED [4,9,10,11,12,78] [(78,.v (.bool ((((pump (heard c g) ((heard c g).window)).2.length : Nat) : Int) == 0)))] ?_
 refine kC ((((pump (heard c g) ((heard c g).window)).2.length : Nat) : Int) == 0) (fun h19 => ?_) (fun h19 => ?_)
 have h19p := eqT h19
 refine kG ?_
 refine kHD 2 [4,9,11,12,79,80] [(79,.v (.slice v16a ((pump (heard c g) ((heard c g).window)).2.length) v16c)),(80,.v (.agg #[.int .i64 ((heard c g).t.my),.int .i64 ((heard c g).t.port),.int .i64 (nextOf ((heard c g).s)),.int .i64 ((heard c g).r.next),.int .i64 16,.int .i64 (wO ((heard c g).r)),.int .i64 0,.int .i64 (-1),.bool false,.bool false,.int .i64 0,.int .i64 0,.string (⟨#[]⟩ : ByteArray)]))] rfl (hv_build (e := 50) (K := 13) (bytes := 104) [.agg #[.int .i64 ((heard c g).t.my),.int .i64 ((heard c g).t.port),.int .i64 (nextOf ((heard c g).s)),.int .i64 ((heard c g).r.next),.int .i64 16,.int .i64 (wO ((heard c g).r)),.int .i64 0,.int .i64 (-1),.bool false,.bool false,.int .i64 0,.int .i64 0,.string (⟨#[]⟩ : ByteArray)]] rfl (by kernel_rfl) (by kernel_rfl) (by kernel_rfl) (by kernel_rfl) (by kernel_rfl) (rs := ([⟨(heard c g).t.my,(heard c g).t.port,nextOf ((heard c g).s),(heard c g).r.next,16,wO ((heard c g).r),⟨0,(-1),false,false,0,0⟩,(⟨#[]⟩ : ByteArray)⟩] : List Seg).map segCells) rfl) ?_
 intro g20
 refine kHS 0 [4,9,11,12,79,81] [(4,.p 2 0),(9,.v (.int .i64 (verdict c g))),(11,.p 5 0),(12,.v (.slice v16a ((pump (heard c g) ((heard c g).window)).2.length) v16c)),(79,.v (.slice v16a ((pump (heard c g) ((heard c g).window)).2.length) v16c)),(81,.v (.slice (some ⟨g20,0,none⟩) 1 1))] rfl (hv_append (e := 50) (K := 13) (bytes := 104) (i := 2) (q := ((pump (heard c g) ((heard c g).window)).2 ++ ([⟨(heard c g).t.my,(heard c g).t.port,nextOf ((heard c g).s),(heard c g).r.next,16,wO ((heard c g).r),⟨0,(-1),false,false,0,0⟩,(⟨#[]⟩ : ByteArray)⟩] : List Seg)).length) (new := ([⟨(heard c g).t.my,(heard c g).t.port,nextOf ((heard c g).s),(heard c g).r.next,16,wO ((heard c g).r),⟨0,(-1),false,false,0,0⟩,(⟨#[]⟩ : ByteArray)⟩] : List Seg).map segCells) (rs' := ((pump (heard c g) ((heard c g).window)).2 ++ ([⟨(heard c g).t.my,(heard c g).t.port,nextOf ((heard c g).s),(heard c g).r.next,16,wO ((heard c g).r),⟨0,(-1),false,false,0,0⟩,(⟨#[]⟩ : ByteArray)⟩] : List Seg)).map segCells) rfl rfl rfl rfl (by kernel_rfl) (by kernel_rfl) (by kernel_rfl) rfl (by simp) (by rw [List.map_append]) (by simp) (fun ww hf => (rowF_sl (hf (rowF w.heap.size 50 13 (.slice (some ⟨g20,0,none⟩) 1 1) (([⟨(heard c g).t.my,(heard c g).t.port,nextOf ((heard c g).s),(heard c g).r.next,16,wO ((heard c g).r),⟨0,(-1),false,false,0,0⟩,(⟨#[]⟩ : ByteArray)⟩] : List Seg).map segCells)) (by simp)))) (by intro r hr; obtain ⟨x,hx,rfl⟩ := List.mem_map.1 hr; exact ⟨rfl,by simp [segCells,Value.oneCell']⟩) (by (try simp only [List.length_map,List.length_append,List.length_cons,List.length_nil,List.length_take,List.length_drop,maxLen]); omega) (by (try simp only [List.length_map,List.length_append,List.length_cons,List.length_nil,List.length_take,List.length_drop,maxLen]); omega)) ?_
 rintro ⟨v21a,v21c⟩
 refine kED [4,9,11,12] [(12,.v (.slice v21a (((pump (heard c g) ((heard c g).window)).2 ++ ([⟨(heard c g).t.my,(heard c g).t.port,nextOf ((heard c g).s),(heard c g).r.next,16,wO ((heard c g).r),⟨0,(-1),false,false,0,0⟩,(⟨#[]⟩ : ByteArray)⟩] : List Seg)).length) v21c))] ?_
 refine kQ ?_
 refine kEU [4,5,6] [(5,.v (.slice v21a (((pump (heard c g) ((heard c g).window)).2 ++ ([⟨(heard c g).t.my,(heard c g).t.port,nextOf ((heard c g).s),(heard c g).r.next,16,wO ((heard c g).r),⟨0,(-1),false,false,0,0⟩,(⟨#[]⟩ : ByteArray)⟩] : List Seg)).length) v21c)),(6,.v (.int .i64 (verdict c g)))] 2 ⟨44,conL (pump (heard c g) ((heard c g).window)).1 (.slice v15a ((pump (heard c g) ((heard c g).window)).1.r.held.length) v15c)⟩ ?_
 refine kR ?_
 have hmod : received c g = (((pump (heard c g) ((heard c g).window)).1),((pump (heard c g) ((heard c g).window)).2 ++ ([⟨(heard c g).t.my,(heard c g).t.port,nextOf ((heard c g).s),(heard c g).r.next,16,wO ((heard c g).r),⟨0,(-1),false,false,0,0⟩,(⟨#[]⟩ : ByteArray)⟩] : List Seg)),(verdict c g)) := by first | (simp [received,answered,ackOf, *]; done) | grind [received,answered,ackOf]
 exact ⟨[.agg (conL (pump (heard c g) ((heard c g).window)).1 (.slice v15a ((pump (heard c g) ((heard c g).window)).1.r.held.length) v15c)).toArray,.slice v21a (((pump (heard c g) ((heard c g).window)).2 ++ ([⟨(heard c g).t.my,(heard c g).t.port,nextOf ((heard c g).s),(heard c g).r.next,16,wO ((heard c g).r),⟨0,(-1),false,false,0,0⟩,(⟨#[]⟩ : ByteArray)⟩] : List Seg)).length) v21c,.int .i64 (verdict c g)],by kernel_rfl,fun w' hb hf ha => by rw [hmod]; exact xo2 ((v15a,v15c),(v21a,v21c)) rfl rfl (pO (hf _ m2) hB) (pR (hf _ m0) hB) (Apart.sub2 ha (i := 2) (j := 0) rfl rfl (by decide) rfl (fun b h => h) (fun b h => rowF_blk h)) hb⟩
 have h19p := eqF h19
 refine kK ?_
 refine kQ ?_
 refine kEU [4,5,6] [(5,.v (.slice v16a ((pump (heard c g) ((heard c g).window)).2.length) v16c)),(6,.v (.int .i64 (verdict c g)))] 2 ⟨44,conL (pump (heard c g) ((heard c g).window)).1 (.slice v15a ((pump (heard c g) ((heard c g).window)).1.r.held.length) v15c)⟩ ?_
 refine kR ?_
 have hmod : received c g = (((pump (heard c g) ((heard c g).window)).1),((pump (heard c g) ((heard c g).window)).2),(verdict c g)) := by first | (simp [received,answered,ackOf, *]; done) | grind [received,answered,ackOf]
 exact ⟨[.agg (conL (pump (heard c g) ((heard c g).window)).1 (.slice v15a ((pump (heard c g) ((heard c g).window)).1.r.held.length) v15c)).toArray,.slice v16a ((pump (heard c g) ((heard c g).window)).2.length) v16c,.int .i64 (verdict c g)],by kernel_rfl,fun w' hb hf ha => by rw [hmod]; exact xo2 ((v15a,v15c),(v16a,v16c)) rfl rfl (pO (hf _ m0) hB) (pR (hf _ m1) hB) (Apart.sub2 ha (i := 0) (j := 1) rfl rfl (by decide) rfl (fun b h => h) (fun b h => rowF_blk h)) hb⟩
 have h18p := of_decide_eq_false h18
 refine kED [4,9,10,11,12,78] [(78,.v (.bool false))] ?_
 refine kN ?_
 refine kK ?_
 refine kQ ?_
 refine kEU [4,5,6] [(5,.v (.slice v16a ((pump (heard c g) ((heard c g).window)).2.length) v16c)),(6,.v (.int .i64 (verdict c g)))] 2 ⟨44,conL (pump (heard c g) ((heard c g).window)).1 (.slice v15a ((pump (heard c g) ((heard c g).window)).1.r.held.length) v15c)⟩ ?_
 refine kR ?_
 have hmod : received c g = (((pump (heard c g) ((heard c g).window)).1),((pump (heard c g) ((heard c g).window)).2),(verdict c g)) := by first | (simp [received,answered,ackOf, *]; done) | grind [received,answered,ackOf]
 exact ⟨[.agg (conL (pump (heard c g) ((heard c g).window)).1 (.slice v15a ((pump (heard c g) ((heard c g).window)).1.r.held.length) v15c)).toArray,.slice v16a ((pump (heard c g) ((heard c g).window)).2.length) v16c,.int .i64 (verdict c g)],by kernel_rfl,fun w' hb hf ha => by rw [hmod]; exact xo2 ((v15a,v15c),(v16a,v16c)) rfl rfl (pO (hf _ m0) hB) (pR (hf _ m1) hB) (Apart.sub2 ha (i := 0) (j := 1) rfl rfl (by decide) rfl (fun b h => h) (fun b h => rowF_blk h)) hb⟩
 have h5p := eqF h5
 refine kG ?_
 refine kES [2,3,4,7,8,9,33] [(2,.p 0 0),(3,.p 1 0),(4,.p 2 0),(7,.p 3 0),(8,.v (.slice (some ⟨g2,0,none⟩) 0 0)),(9,.v (.int .i64 (verdict c g))),(33,.v (.bool ((verdict c g) == 4)))] ?_
 refine kC ((verdict c g) == 4) (fun h22 => ?_) (fun h22 => ?_)
 have h22p := eqT h22
 refine kS ?_
 refine xw_joinF (α := {zz : Int // (fun (tm : Int) => tm = if verdict c g = 4 ∧ c.state = 7 ∧ hasF g.flags 1 = true then 4 else c.timer) zz}) (fun zz => (fun (tm : Int) => (⟨[(2,.p 0 0),(4,.p 2 0),(7,.p 3 0),(9,.v (.int .i64 (verdict c g)))],[⟨44,conL c (.slice Z c.r.held.length Y)⟩,⟨50,segL g⟩,⟨44,conZ⟩,⟨44,conL { c with timer := tm } (.slice v1a c.r.held.length v1c)⟩],[],[rowF w.heap.size 50 13 (.slice (some ⟨g2,0,none⟩) 0 0) (([] : List Seg).map segCells),ownF w.heap.size (.slice v1a c.r.held.length v1c) 2 (c.r.held.map pC),slF (.slice Z c.r.held.length Y) 2 (c.r.held.map pC)]⟩ : St)) zz.1) ?_ ?_
 refine kQ ?_
 refine kRD 3 [2,3,4,7,9,38] [(38,.v (.bool ((verdict c g) == 4)))] ?_
 refine kP 38 ((verdict c g) == 4) (fun h23 => ?_) (fun h23 => ?_)
 have h23p := eqT h23
 refine kRD 5 [2,3,4,7,9,43] [(43,.v (.bool (c.state == 7)))] ?_
 refine kP 43 (c.state == 7) (fun h24 => ?_) (fun h24 => ?_)
 have h24p := eqT h24
 refine kCD 1 [2,4,7,9,43,44] [(43,.v (.bool true)),(44,.v (.agg (segL g).toArray))] 34 [.agg (segL g).toArray,.int .i64 1] (some 45) rfl (xc_b fun ww hf => sHas_c g.src g.dst g.seq g.ack g.flags g.window g.o.mss g.o.scale g.o.sack g.o.stamp g.o.val g.o.echo g.body 1 ww ) ?_
 intro _
 refine kED [2,4,7,9,46] [(46,.v (.bool (hasF g.flags 1)))] ?_
 refine kC (hasF g.flags 1) (fun h25 => ?_) (fun h25 => ?_)
 refine kG ?_
 refine kEU [2,4,7,9] [] 3 ⟨44,conL { c with timer := 4 } (.slice v1a c.r.held.length v1c)⟩ ?_
 exact ⟨⟨(4),(by first | (rw [if_neg (by rintro ⟨q1,q2,q3⟩; omega)]; done) | (rw [if_neg (by rintro ⟨q1,q2,q3⟩; simp_all; done)]; done) | (rw [if_pos ⟨by omega,by omega,by assumption⟩]; done))⟩,kF 4 0 [2,4,7,9]⟩
 refine kK ?_
 exact ⟨⟨(c.timer),(by first | (rw [if_neg (by rintro ⟨q1,q2,q3⟩; omega)]; done) | (rw [if_neg (by rintro ⟨q1,q2,q3⟩; simp_all; done)]; done) | (rw [if_pos ⟨by omega,by omega,by assumption⟩]; done))⟩,kF 4 0 [2,4,7,9]⟩
 have h24p := eqF h24
 refine kED [2,4,7,9,46] [(46,.v (.bool false))] ?_
 refine kN ?_
 refine kK ?_
 exact ⟨⟨(c.timer),(by first | (rw [if_neg (by rintro ⟨q1,q2,q3⟩; omega)]; done) | (rw [if_neg (by rintro ⟨q1,q2,q3⟩; simp_all; done)]; done) | (rw [if_pos ⟨by omega,by omega,by assumption⟩]; done))⟩,kF 4 0 [2,4,7,9]⟩
 have h23p := eqF h23
 refine kED [2,4,7,9,46] [(46,.v (.bool false))] ?_
 refine kN ?_
 refine kK ?_
 exact ⟨⟨(c.timer),(by first | (rw [if_neg (by rintro ⟨q1,q2,q3⟩; omega)]; done) | (rw [if_neg (by rintro ⟨q1,q2,q3⟩; simp_all; done)]; done) | (rw [if_pos ⟨by omega,by omega,by assumption⟩]; done))⟩,kF 4 0 [2,4,7,9]⟩
 rintro ⟨tm,htm⟩
 try dsimp only
 try dsimp only at htm
 refine kS ?_
 refine xw_joinE (α := Nat) (fun y => (fun (g27 : Nat) => (⟨[(4,.p 2 0),(5,.v (.slice (some ⟨g27,0,none⟩) 1 1)),(6,.v (.int .i64 (verdict c g)))],[⟨44,conL c (.slice Z c.r.held.length Y)⟩,⟨50,segL g⟩,⟨44,conL { c with timer := tm } (.slice v1a c.r.held.length v1c)⟩,⟨44,conL { c with timer := tm } (.slice v1a c.r.held.length v1c)⟩],[],[rowF w.heap.size 50 13 (.slice (some ⟨g27,0,none⟩) 1 1) (([⟨c.t.my,c.t.port,nextOf c.s,c.r.next,16,wO c.r,⟨0,(-1),false,false,0,0⟩,(⟨#[]⟩ : ByteArray)⟩] : List Seg).map segCells),rowF w.heap.size 50 13 (.slice (some ⟨g2,0,none⟩) 0 0) (([] : List Seg).map segCells),ownF w.heap.size (.slice v1a c.r.held.length v1c) 2 (c.r.held.map pC),slF (.slice Z c.r.held.length Y) 2 (c.r.held.map pC)]⟩ : St)) y) ?_ ?_
 refine xe_region0 [true,true,false,true] (by kernel_rfl) (fun ρ σ => ?_)
 refine kTD [0,1,4] [52,49,48,4] 5 [(52,.v (.int .i64 (verdict c g))),(49,.v (.agg (conL c (.slice Z c.r.held.length Y)).toArray)),(48,.v (.agg (conL { c with timer := tm } (.slice v1a c.r.held.length v1c)).toArray))] ?_
 refine kA [2] ?_
 refine kSC 2 35 [.agg (conL c (.slice Z c.r.held.length Y)).toArray] (some 50) rfl (xc_b fun ww hf => sAckOf_c c.t.ip c.t.port c.t.my c.state c.s.una c.s.data c.s.sent c.s.fin c.s.finSent c.s.done c.r.next c.r.data c.r.held (.slice Z c.r.held.length Y) c.r.fin c.r.done c.window c.most c.o.mss c.o.scale c.o.sack c.o.stamp c.o.val c.o.echo c.timer c.tries ww (by omega)) ?_
 intro _
 refine kA [3,5] ⟨?_,?_⟩
 refine kSH 3 rfl (under_t (under_t (under_f rfl (under_t under_nil)))) (hv_build (e := 50) (K := 13) (bytes := 104) [.agg #[.int .i64 c.t.my,.int .i64 c.t.port,.int .i64 (nextOf c.s),.int .i64 c.r.next,.int .i64 16,.int .i64 (wO c.r),.int .i64 0,.int .i64 (-1),.bool false,.bool false,.int .i64 0,.int .i64 0,.string (⟨#[]⟩ : ByteArray)]] rfl (by kernel_rfl) (by kernel_rfl) (by kernel_rfl) (by kernel_rfl) (by kernel_rfl) (rs := ([⟨c.t.my,c.t.port,nextOf c.s,c.r.next,16,wO c.r,⟨0,(-1),false,false,0,0⟩,(⟨#[]⟩ : ByteArray)⟩] : List Seg).map segCells) rfl) ?_
 intro g27
 refine kA [5] ?_
 refine kSS 5 2 0 (conL { c with timer := tm } (.slice v1a c.r.held.length v1c)) rfl ?_
 refine kTD [6,7] [6,5,4] 0 [(6,.v (.int .i64 (verdict c g))),(5,.v (.slice (some ⟨g27,0,none⟩) 1 1))] ?_
 refine kZ ?_
 exact ⟨(g27),kF 4 0 [4,5,6]⟩
 refine kSS 5 2 0 (conL { c with timer := tm } (.slice v1a c.r.held.length v1c)) rfl ?_
 refine kA [3] ?_
 refine kSH 3 rfl (under_t (under_t (under_f rfl (under_t under_nil)))) (hv_build (e := 50) (K := 13) (bytes := 104) [.agg #[.int .i64 c.t.my,.int .i64 c.t.port,.int .i64 (nextOf c.s),.int .i64 c.r.next,.int .i64 16,.int .i64 (wO c.r),.int .i64 0,.int .i64 (-1),.bool false,.bool false,.int .i64 0,.int .i64 0,.string (⟨#[]⟩ : ByteArray)]] rfl (by kernel_rfl) (by kernel_rfl) (by kernel_rfl) (by kernel_rfl) (by kernel_rfl) (rs := ([⟨c.t.my,c.t.port,nextOf c.s,c.r.next,16,wO c.r,⟨0,(-1),false,false,0,0⟩,(⟨#[]⟩ : ByteArray)⟩] : List Seg).map segCells) rfl) ?_
 intro g29
 refine kTD [6,7] [6,5,4] 0 [(6,.v (.int .i64 (verdict c g))),(5,.v (.slice (some ⟨g29,0,none⟩) 1 1))] ?_
 refine kZ ?_
 exact ⟨(g29),kF 4 0 [4,5,6]⟩
 intro g27
 refine kR ?_
 have hmod : received c g = (({ c with timer := tm }),([⟨c.t.my,c.t.port,nextOf c.s,c.r.next,16,wO c.r,⟨0,(-1),false,false,0,0⟩,(⟨#[]⟩ : ByteArray)⟩] : List Seg),(verdict c g)) := by first | (have hv4 : verdict c g = 4 := (by assumption); exact (received_ack hv4 htm).trans (by rw [hv4]; first | done | rfl)) | (have hv3 : verdict c g = 3 := (by assumption); exact (received_chal hv3 htm).trans (by rw [hv3]; first | done | rfl))
 exact ⟨[.agg (conL { c with timer := tm } (.slice v1a c.r.held.length v1c)).toArray,.slice (some ⟨g27,0,none⟩) 1 1,.int .i64 (verdict c g)],by kernel_rfl,fun w' hb hf ha => by rw [hmod]; exact xo2 ((v1a,v1c),(((some ⟨g27,0,none⟩) : Option Addr),1)) rfl rfl (pO (hf _ m2) hB) (pR (hf _ m0) hB) (Apart.sub2 ha (i := 2) (j := 0) rfl rfl (by decide) rfl (fun b h => h) (fun b h => rowF_blk h)) hb⟩
 have h22p := eqF h22
 refine kK ?_
 refine kQ ?_
 refine kCD 2 [3,4,7,8,9,53,54] [(53,.v (.agg (conL c (.slice Z c.r.held.length Y)).toArray)),(54,.v (.agg (segL g).toArray))] 28 [.agg (conL c (.slice Z c.r.held.length Y)).toArray,.agg (segL g).toArray] (some 55) rfl (xc_r fun ww hw hf => ysHeard_c c (.slice Z c.r.held.length Y) g ww (hf _ m2) (by assumption) (by omega) (by assumption) (by omega) w.heap.size hw) ?_
 rintro ⟨v30a,v30c⟩
 have hv5 : verdict c g = 5 := by have := verdict_rng c g; omega
 have hhw := heard_w hv5
 have hz31 := heard_sz (H := 1048576) (T := 1048576) (D := 4611686018427387904) (c := c) (g := g) (by assumption) (by assumption) (by assumption) (by omega) (by omega) (by omega)
 obtain ⟨hz31a,hz31b,hz31c⟩ := hz31
 refine kEU [3,4,7,8,9] [] 3 ⟨44,conL (heard c g) (.slice v30a ((heard c g).r.held.length) v30c)⟩ ?_
 refine kS ?_
 refine kQ ?_
 refine kED [3,4,7,8,9,58] [(58,.v (.bool (((heard c g).state) == 8)))] ?_
 refine kC (((heard c g).state) == 8) (fun h32 => ?_) (fun h32 => ?_)
 have h32p := eqT h32
 refine kQ ?_
 refine kEU [4,5,6] [(5,.v (.slice (some ⟨g2,0,none⟩) 0 0)),(6,.v (.int .i64 (verdict c g)))] 2 ⟨44,conL (heard c g) (.slice v30a ((heard c g).r.held.length) v30c)⟩ ?_
 refine kR ?_
 have hmod : received c g = ((heard c g),([] : List Seg),(verdict c g)) := by first | (simp [received,answered,ackOf, *]; done) | grind [received,answered,ackOf]
 exact ⟨[.agg (conL (heard c g) (.slice v30a ((heard c g).r.held.length) v30c)).toArray,.slice (some ⟨g2,0,none⟩) 0 0,.int .i64 (verdict c g)],by kernel_rfl,fun w' hb hf ha => by rw [hmod]; exact xo2 ((v30a,v30c),(((some ⟨g2,0,none⟩) : Option Addr),0)) rfl rfl (pO (hf _ m0) hB) (pR (hf _ m1) hB) (Apart.sub2 ha (i := 0) (j := 1) rfl rfl (by decide) rfl (fun b h => h) (fun b h => rowF_blk h)) hb⟩
 have h32p := eqF h32
 refine kK ?_
 refine kQ ?_
 refine kCD 1 [3,4,7,9,62] [(62,.v (.agg (conL (heard c g) (.slice v30a ((heard c g).r.held.length) v30c)).toArray))] 35 [.agg (conL (heard c g) (.slice v30a ((heard c g).r.held.length) v30c)).toArray] (some 63) rfl (xc_b fun ww hf => sAckOf_c ((heard c g).t.ip) ((heard c g).t.port) ((heard c g).t.my) ((heard c g).state) ((heard c g).s.una) ((heard c g).s.data) ((heard c g).s.sent) ((heard c g).s.fin) ((heard c g).s.finSent) ((heard c g).s.done) ((heard c g).r.next) ((heard c g).r.data) ((heard c g).r.held) (.slice v30a ((heard c g).r.held.length) v30c) ((heard c g).r.fin) ((heard c g).r.done) ((heard c g).window) ((heard c g).most) ((heard c g).o.mss) ((heard c g).o.scale) ((heard c g).o.sack) ((heard c g).o.stamp) ((heard c g).o.val) ((heard c g).o.echo) ((heard c g).timer) ((heard c g).tries) ww (by omega)) ?_
 intro _
 refine kEA [3,4,7,9,10] [(10,.p 4 0)] [⟨50,[.int .i64 ((heard c g).t.my),.int .i64 ((heard c g).t.port),.int .i64 (nextOf ((heard c g).s)),.int .i64 ((heard c g).r.next),.int .i64 16,.int .i64 (wO ((heard c g).r)),.int .i64 0,.int .i64 (-1),.bool false,.bool false,.int .i64 0,.int .i64 0,.string (⟨#[]⟩ : ByteArray)]⟩] ?_
 refine kQ ?_
 refine kCD 3 [3,4,9,10,65,67] [(65,.v (.agg (conL (heard c g) (.slice v30a ((heard c g).r.held.length) v30c)).toArray)),(67,.v (.int .i64 ((heard c g).window)))] 36 [.agg (conL (heard c g) (.slice v30a ((heard c g).r.held.length) v30c)).toArray,.int .i64 ((heard c g).window)] (some 68) rfl (xc_r fun ww hw hf => ysPump_c (heard c g) (.slice v30a ((heard c g).r.held.length) v30c) ((heard c g).window) ww (Own.sl (hf _ m0)) (by assumption) (by assumption) (by omega) (by omega) w.heap.size hw) ?_
 rintro ⟨⟨v33a,v33c⟩,⟨v34a,v34c⟩⟩
 have hbd35 : (pump (heard c g) ((heard c g).window)).1.r.held.length ≤ 1048576 ∧ (pump (heard c g) ((heard c g).window)).2.length ≤ 49 := pump_bd _ _  (by omega)
 have hbd35a := hbd35.1; have hbd35b := hbd35.2
 refine kEA [3,4,9,10,11,12] [(11,.p 5 0),(12,.v (.slice v34a ((pump (heard c g) ((heard c g).window)).2.length) v34c))] [⟨44,conL (pump (heard c g) ((heard c g).window)).1 (.slice v33a ((pump (heard c g) ((heard c g).window)).1.r.held.length) v33c)⟩] ?_
 refine kS ?_
 refine kQ ?_
 refine kCD 1 [4,9,10,11,12,71] [(71,.v (.agg (segL g).toArray))] 37 [.agg (segL g).toArray] (some 72) rfl (xc_b fun ww hf => sSegmentLen_c g.src g.dst g.seq g.ack g.flags g.window g.o.mss g.o.scale g.o.sack g.o.stamp g.o.val g.o.echo g.body ww (by omega)) ?_
 intro _
 refine kRD 2 [4,9,10,11,12,74] [(74,.v (.bool (decide ((segLen g) > 0))))] ?_
 refine kP 74 (decide ((segLen g) > 0)) (fun h36 => ?_) (fun h36 => ?_)
 have h36p := of_decide_eq_true h36
 refine kED [4,9,10,11,12,78] [(78,.v (.bool ((((pump (heard c g) ((heard c g).window)).2.length : Nat) : Int) == 0)))] ?_
 refine kC ((((pump (heard c g) ((heard c g).window)).2.length : Nat) : Int) == 0) (fun h37 => ?_) (fun h37 => ?_)
 have h37p := eqT h37
 refine kG ?_
 refine kHS 2 [4,9,11,12,79,80] [(4,.p 2 0),(9,.v (.int .i64 (verdict c g))),(11,.p 5 0),(12,.v (.slice v34a ((pump (heard c g) ((heard c g).window)).2.length) v34c)),(79,.v (.slice v34a ((pump (heard c g) ((heard c g).window)).2.length) v34c)),(80,.v (.agg #[.int .i64 ((heard c g).t.my),.int .i64 ((heard c g).t.port),.int .i64 (nextOf ((heard c g).s)),.int .i64 ((heard c g).r.next),.int .i64 16,.int .i64 (wO ((heard c g).r)),.int .i64 0,.int .i64 (-1),.bool false,.bool false,.int .i64 0,.int .i64 0,.string (⟨#[]⟩ : ByteArray)]))] rfl (hv_build (e := 50) (K := 13) (bytes := 104) [.agg #[.int .i64 ((heard c g).t.my),.int .i64 ((heard c g).t.port),.int .i64 (nextOf ((heard c g).s)),.int .i64 ((heard c g).r.next),.int .i64 16,.int .i64 (wO ((heard c g).r)),.int .i64 0,.int .i64 (-1),.bool false,.bool false,.int .i64 0,.int .i64 0,.string (⟨#[]⟩ : ByteArray)]] rfl (by kernel_rfl) (by kernel_rfl) (by kernel_rfl) (by kernel_rfl) (by kernel_rfl) (rs := ([⟨(heard c g).t.my,(heard c g).t.port,nextOf ((heard c g).s),(heard c g).r.next,16,wO ((heard c g).r),⟨0,(-1),false,false,0,0⟩,(⟨#[]⟩ : ByteArray)⟩] : List Seg).map segCells) rfl) ?_
 intro g38
 refine kHD 0 [4,9,11,12,79,81] [] rfl (hv_append (e := 50) (K := 13) (bytes := 104) (i := 2) (q := ((pump (heard c g) ((heard c g).window)).2 ++ ([⟨(heard c g).t.my,(heard c g).t.port,nextOf ((heard c g).s),(heard c g).r.next,16,wO ((heard c g).r),⟨0,(-1),false,false,0,0⟩,(⟨#[]⟩ : ByteArray)⟩] : List Seg)).length) (new := ([⟨(heard c g).t.my,(heard c g).t.port,nextOf ((heard c g).s),(heard c g).r.next,16,wO ((heard c g).r),⟨0,(-1),false,false,0,0⟩,(⟨#[]⟩ : ByteArray)⟩] : List Seg).map segCells) (rs' := ((pump (heard c g) ((heard c g).window)).2 ++ ([⟨(heard c g).t.my,(heard c g).t.port,nextOf ((heard c g).s),(heard c g).r.next,16,wO ((heard c g).r),⟨0,(-1),false,false,0,0⟩,(⟨#[]⟩ : ByteArray)⟩] : List Seg)).map segCells) rfl rfl rfl rfl (by kernel_rfl) (by kernel_rfl) (by kernel_rfl) rfl (by simp) (by rw [List.map_append]) (by simp) (fun ww hf => (rowF_sl (hf (rowF w.heap.size 50 13 (.slice (some ⟨g38,0,none⟩) 1 1) (([⟨(heard c g).t.my,(heard c g).t.port,nextOf ((heard c g).s),(heard c g).r.next,16,wO ((heard c g).r),⟨0,(-1),false,false,0,0⟩,(⟨#[]⟩ : ByteArray)⟩] : List Seg).map segCells)) (by simp)))) (by intro r hr; obtain ⟨x,hx,rfl⟩ := List.mem_map.1 hr; exact ⟨rfl,by simp [segCells,Value.oneCell']⟩) (by (try simp only [List.length_map,List.length_append,List.length_cons,List.length_nil,List.length_take,List.length_drop,maxLen]); omega) (by (try simp only [List.length_map,List.length_append,List.length_cons,List.length_nil,List.length_take,List.length_drop,maxLen]); omega)) ?_
 rintro ⟨v39a,v39c⟩
 refine kED [4,9,11,12] [(12,.v (.slice v39a (((pump (heard c g) ((heard c g).window)).2 ++ ([⟨(heard c g).t.my,(heard c g).t.port,nextOf ((heard c g).s),(heard c g).r.next,16,wO ((heard c g).r),⟨0,(-1),false,false,0,0⟩,(⟨#[]⟩ : ByteArray)⟩] : List Seg)).length) v39c))] ?_
 refine kQ ?_
 refine kEU [4,5,6] [(5,.v (.slice v39a (((pump (heard c g) ((heard c g).window)).2 ++ ([⟨(heard c g).t.my,(heard c g).t.port,nextOf ((heard c g).s),(heard c g).r.next,16,wO ((heard c g).r),⟨0,(-1),false,false,0,0⟩,(⟨#[]⟩ : ByteArray)⟩] : List Seg)).length) v39c)),(6,.v (.int .i64 (verdict c g)))] 2 ⟨44,conL (pump (heard c g) ((heard c g).window)).1 (.slice v33a ((pump (heard c g) ((heard c g).window)).1.r.held.length) v33c)⟩ ?_
 refine kR ?_
 have hmod : received c g = (((pump (heard c g) ((heard c g).window)).1),((pump (heard c g) ((heard c g).window)).2 ++ ([⟨(heard c g).t.my,(heard c g).t.port,nextOf ((heard c g).s),(heard c g).r.next,16,wO ((heard c g).r),⟨0,(-1),false,false,0,0⟩,(⟨#[]⟩ : ByteArray)⟩] : List Seg)),(verdict c g)) := by first | (simp [received,answered,ackOf, *]; done) | grind [received,answered,ackOf]
 exact ⟨[.agg (conL (pump (heard c g) ((heard c g).window)).1 (.slice v33a ((pump (heard c g) ((heard c g).window)).1.r.held.length) v33c)).toArray,.slice v39a (((pump (heard c g) ((heard c g).window)).2 ++ ([⟨(heard c g).t.my,(heard c g).t.port,nextOf ((heard c g).s),(heard c g).r.next,16,wO ((heard c g).r),⟨0,(-1),false,false,0,0⟩,(⟨#[]⟩ : ByteArray)⟩] : List Seg)).length) v39c,.int .i64 (verdict c g)],by kernel_rfl,fun w' hb hf ha => by rw [hmod]; exact xo2 ((v33a,v33c),(v39a,v39c)) rfl rfl (pO (hf _ m2) hB) (pR (hf _ m0) hB) (Apart.sub2 ha (i := 2) (j := 0) rfl rfl (by decide) rfl (fun b h => h) (fun b h => rowF_blk h)) hb⟩
 have h37p := eqF h37
 refine kK ?_
 refine kQ ?_
 refine kEF [4,5,6] ⟨[(4,.p 2 0),(5,.v (.slice v34a ((pump (heard c g) ((heard c g).window)).2.length) v34c)),(6,.v (.int .i64 (verdict c g)))],[⟨44,conL c (.slice Z c.r.held.length Y)⟩,⟨50,segL g⟩,⟨44,conL (pump (heard c g) ((heard c g).window)).1 (.slice v33a ((pump (heard c g) ((heard c g).window)).1.r.held.length) v33c)⟩,⟨44,conL (heard c g) (.slice v30a ((heard c g).r.held.length) v30c)⟩,⟨50,[.int .i64 ((heard c g).t.my),.int .i64 ((heard c g).t.port),.int .i64 (nextOf ((heard c g).s)),.int .i64 ((heard c g).r.next),.int .i64 16,.int .i64 (wO ((heard c g).r)),.int .i64 0,.int .i64 (-1),.bool false,.bool false,.int .i64 0,.int .i64 0,.string (⟨#[]⟩ : ByteArray)]⟩,⟨44,conL (pump (heard c g) ((heard c g).window)).1 (.slice v33a ((pump (heard c g) ((heard c g).window)).1.r.held.length) v33c)⟩],[],[ownF w.heap.size (.slice v33a ((pump (heard c g) ((heard c g).window)).1.r.held.length) v33c) 2 ((pump (heard c g) ((heard c g).window)).1.r.held.map pC),rowF w.heap.size 50 13 (.slice v34a ((pump (heard c g) ((heard c g).window)).2.length) v34c) ((pump (heard c g) ((heard c g).window)).2.map segCells),ownF w.heap.size (.slice v30a ((heard c g).r.held.length) v30c) 2 ((heard c g).r.held.map pC),rowF w.heap.size 50 13 (.slice (some ⟨g2,0,none⟩) 0 0) (([] : List Seg).map segCells),ownF w.heap.size (.slice v1a c.r.held.length v1c) 2 (c.r.held.map pC),slF (.slice Z c.r.held.length Y) 2 (c.r.held.map pC)]⟩ ?_
 refine kR ?_
 have hmod : received c g = (((pump (heard c g) ((heard c g).window)).1),((pump (heard c g) ((heard c g).window)).2),(verdict c g)) := by first | (simp [received,answered,ackOf, *]; done) | grind [received,answered,ackOf]
 exact ⟨[.agg (conL (pump (heard c g) ((heard c g).window)).1 (.slice v33a ((pump (heard c g) ((heard c g).window)).1.r.held.length) v33c)).toArray,.slice v34a ((pump (heard c g) ((heard c g).window)).2.length) v34c,.int .i64 (verdict c g)],by kernel_rfl,fun w' hb hf ha => by rw [hmod]; exact xo2 ((v33a,v33c),(v34a,v34c)) rfl rfl (pO (hf _ m0) hB) (pR (hf _ m1) hB) (Apart.sub2 ha (i := 0) (j := 1) rfl rfl (by decide) rfl (fun b h => h) (fun b h => rowF_blk h)) hb⟩
 have h36p := of_decide_eq_false h36
 refine kED [4,9,10,11,12,78] [(78,.v (.bool false))] ?_
 refine kN ?_
 refine kK ?_
 refine kQ ?_
 refine kEF [4,5,6] ⟨[(4,.p 2 0),(5,.v (.slice v34a ((pump (heard c g) ((heard c g).window)).2.length) v34c)),(6,.v (.int .i64 (verdict c g)))],[⟨44,conL c (.slice Z c.r.held.length Y)⟩,⟨50,segL g⟩,⟨44,conL (pump (heard c g) ((heard c g).window)).1 (.slice v33a ((pump (heard c g) ((heard c g).window)).1.r.held.length) v33c)⟩,⟨44,conL (heard c g) (.slice v30a ((heard c g).r.held.length) v30c)⟩,⟨50,[.int .i64 ((heard c g).t.my),.int .i64 ((heard c g).t.port),.int .i64 (nextOf ((heard c g).s)),.int .i64 ((heard c g).r.next),.int .i64 16,.int .i64 (wO ((heard c g).r)),.int .i64 0,.int .i64 (-1),.bool false,.bool false,.int .i64 0,.int .i64 0,.string (⟨#[]⟩ : ByteArray)]⟩,⟨44,conL (pump (heard c g) ((heard c g).window)).1 (.slice v33a ((pump (heard c g) ((heard c g).window)).1.r.held.length) v33c)⟩],[],[ownF w.heap.size (.slice v33a ((pump (heard c g) ((heard c g).window)).1.r.held.length) v33c) 2 ((pump (heard c g) ((heard c g).window)).1.r.held.map pC),rowF w.heap.size 50 13 (.slice v34a ((pump (heard c g) ((heard c g).window)).2.length) v34c) ((pump (heard c g) ((heard c g).window)).2.map segCells),ownF w.heap.size (.slice v30a ((heard c g).r.held.length) v30c) 2 ((heard c g).r.held.map pC),rowF w.heap.size 50 13 (.slice (some ⟨g2,0,none⟩) 0 0) (([] : List Seg).map segCells),ownF w.heap.size (.slice v1a c.r.held.length v1c) 2 (c.r.held.map pC),slF (.slice Z c.r.held.length Y) 2 (c.r.held.map pC)]⟩ ?_
 refine kR ?_
 have hmod : received c g = (((pump (heard c g) ((heard c g).window)).1),((pump (heard c g) ((heard c g).window)).2),(verdict c g)) := by first | (simp [received,answered,ackOf, *]; done) | grind [received,answered,ackOf]
 exact ⟨[.agg (conL (pump (heard c g) ((heard c g).window)).1 (.slice v33a ((pump (heard c g) ((heard c g).window)).1.r.held.length) v33c)).toArray,.slice v34a ((pump (heard c g) ((heard c g).window)).2.length) v34c,.int .i64 (verdict c g)],by kernel_rfl,fun w' hb hf ha => by rw [hmod]; exact xo2 ((v33a,v33c),(v34a,v34c)) rfl rfl (pO (hf _ m0) hB) (pR (hf _ m1) hB) (Apart.sub2 ha (i := 0) (j := 1) rfl rfl (by decide) rfl (fun b h => h) (fun b h => rowF_blk h)) hb⟩
theorem l1New_c (J : List Int) (A : Option Addr) (cap : Nat) (w : World) (hl : Sl w (.slice A J.length cap) 1 (J.map bR)) (hn : J.length ≤ 1048576) : Calls Tryz.prog 107 #[.slice A J.length cap] w fun e w' => ∃ y : {g : Nat // ¬ (slF (.slice A J.length cap) 1 (J.map bR)).blk g}, e = .returned (.pointer (some ⟨y.1, 0, none⟩)) ∧ (curF w.heap.size y.1 137 (.slice A J.length cap) J.length).p w' ∧ Below w.heap.size w w' := by
 have hq_code := Sl.capLe hl
 refine x_calls (args := [.slice A J.length cap]) (fn := Tryz.f107) [slF (.slice A J.length cap) 1 (J.map bR)] Tryz.func107 rfl Tryz.ntmps107 rfl (by simp only [List.mem_cons,List.not_mem_nil,or_false,forall_eq]; exact ⟨rfl,hl⟩) ?_
 refine kQ ?_
 refine kEF [0] ⟨[(0,.v (.slice A J.length cap))],[],[],[slF (.slice A J.length cap) 1 (J.map bR)]⟩ ?_
 refine kQ ?_
 refine kED [0,3] [(3,.v (.int .i64 (IntKind.i64.wrap (28655 + ((J.length : Nat) : Int)))))] ?_
 refine kS ?_
 refine kQ ?_
 refine kED [0,3,4] [(4,.v (.int .i64 0))] ?_
 refine xw_block ?_
 refine xw_loopW (α := {x : Nat × Int // (fun (i : Nat) (h : Int) => i ≤ J.length) x.1 x.2}) (fun x => (fun (i : Nat) (h : Int) => (⟨[(0,.v (.slice A J.length cap)),(3,.v (.int .i64 h)),(4,.v (.int .i64 (i : Int)))],[],[],[slF (.slice A J.length cap) 1 (J.map bR)]⟩ : St)) x.1.1 x.1.2) (fun x => (fun (i : Nat) (h : Int) => J.length - i) x.1.1 x.1.2) ⟨(0,IntKind.i64.wrap (28655 + ((J.length : Nat) : Int))),Nat.zero_le _⟩ (kF 0 0 [0,3,4]) ?_
 rintro ⟨⟨i,h⟩,hi⟩
 try dsimp only
 try dsimp only at hi
 refine kS ?_
 refine kQ ?_
 refine kRD 5 [0,3,4,12] [(12,.v (.bool (decide ((i : Int) < ((J.length : Nat) : Int)))))] ?_
 refine kP 12 (decide ((i : Int) < ((J.length : Nat) : Int))) (fun h1 => ?_) (fun h1 => ?_)
 have h1p := of_decide_eq_true h1
 have hlt : i < J.length := by simpa using h1
 obtain ⟨z,hz⟩ : ∃ z,J[i]? = some z := ⟨_,List.getElem?_eq_getElem hlt⟩
 refine kED [0,3,4,15] [(15,.v (.bool (decide ((i : Int) < 4000))))] ?_
 refine kC (decide ((i : Int) < 4000)) (fun h2 => ?_) (fun h2 => ?_)
 have h2p := of_decide_eq_true h2
 refine kK ?_
 refine kS ?_
 refine xw_block ?_
 refine kG ?_
 refine xl_indexD (kd := .i64) (T := 57) (e := 5) (K := 1) 4 [0,3,4,19,20,21] [(19,.v (.int .i64 (IntKind.i64.wrap (h * 131)))),(20,.v (.slice A J.length cap)),(21,.v (.int .i64 (i : Int)))] i [.int .u8 z] (slF (.slice A J.length cap) 1 (J.map bR)) (by kernel_rfl) rfl (by kernel_rfl) rfl rfl (by kernel_rfl) (by kernel_rfl) (by kernel_rfl) (by kernel_rfl) hlt (by simp) (fun w h => h) (fun b h => h) (by simp only [List.getElem?_map,hz]; rfl) ?_
 refine kED [0,3,4] [(3,.v (.int .i64 (IntKind.i64.wrap (BitVec.ofInt 64 (IntKind.i64.wrap ((IntKind.i64.wrap ((IntKind.i64.wrap (h * 131)) + (IntKind.i64.wrap z))) + 7)) &&& BitVec.ofInt 64 1073741823).toNat)))] ?_
 refine kG ?_
 refine kRD 3 [0,3,4] [(4,.v (.int .i64 (IntKind.i64.wrap ((i : Int) + 1))))] ?_
 refine xl_nv [0,3,4] [(4,.v (.int .i64 (IntKind.i64.wrap ((i : Int) + 1))))] [(4,.v (.int .i64 ((i : Int) + 1)))] (by rw [show (IntKind.i64.wrap ((i : Int) + 1)) = ((i : Int) + 1) from wrap_id (by omega) (by omega)]) (by kernel_rfl) ?_
 refine kED [0,3,4] [] ?_
 exact ⟨⟨(i + 1,IntKind.i64.wrap (BitVec.ofInt 64 (IntKind.i64.wrap ((IntKind.i64.wrap ((IntKind.i64.wrap (h * 131)) + (IntKind.i64.wrap z))) + 7)) &&& BitVec.ofInt 64 1073741823).toNat),hlt⟩,kF 0 0 [0,3,4],by show (fun (i : Nat) (h : Int) => J.length - i) (i + 1) (IntKind.i64.wrap (BitVec.ofInt 64 (IntKind.i64.wrap ((IntKind.i64.wrap ((IntKind.i64.wrap (h * 131)) + (IntKind.i64.wrap z))) + 7)) &&& BitVec.ofInt 64 1073741823).toNat) < J.length - i; (dsimp only; omega)⟩
 have h2p := of_decide_eq_false h2
 refine xw_exit ?_
 refine kQ ?_
 refine kOS 2 [28,29] [(28,.v (.slice A J.length cap)),(29,.v (.int .i64 h))] (.agg #[.slice A J.length cap,.int .i64 0,.int .i64 h]) rfl (fun _ _ _ ww hr => act_build [(0,.slice A J.length cap),(2,.int .i64 h)] hr.1 rfl (by kernel_rfl) (by kernel_rfl) ww) ?_
 refine kEA [2] [(2,.p 0 0)] [⟨137,[.slice A J.length cap,.int .i64 0,.int .i64 h]⟩] ?_
 refine xw_pin ?_
 intro g hg hgn
 refine kR ?_
 exact ⟨[.pointer (some ⟨g,0,none⟩)],by kernel_rfl,fun w' hb hf => ⟨⟨g,hgn _ (by simp)⟩,rfl,⟨hg,0,h,Nat.zero_le _,(hf (cellF w.heap.size g 137 [.slice A J.length cap,.int .i64 0,.int .i64 h]) (by simp)).2⟩,hb⟩⟩
 have h1p := of_decide_eq_false h1
 refine kED [0,3,4,15] [(15,.v (.bool false))] ?_
 refine kN ?_
 refine xw_exit ?_
 refine kQ ?_
 refine kOS 2 [28,29] [(28,.v (.slice A J.length cap)),(29,.v (.int .i64 h))] (.agg #[.slice A J.length cap,.int .i64 0,.int .i64 h]) rfl (fun _ _ _ ww hr => act_build [(0,.slice A J.length cap),(2,.int .i64 h)] hr.1 rfl (by kernel_rfl) (by kernel_rfl) ww) ?_
 refine kEA [2] [(2,.p 0 0)] [⟨137,[.slice A J.length cap,.int .i64 0,.int .i64 h]⟩] ?_
 refine xw_pin ?_
 intro g hg hgn
 refine kR ?_
 exact ⟨[.pointer (some ⟨g,0,none⟩)],by kernel_rfl,fun w' hb hf => ⟨⟨g,hgn _ (by simp)⟩,rfl,⟨hg,0,h,Nat.zero_le _,(hf (cellF w.heap.size g 137 [.slice A J.length cap,.int .i64 0,.int .i64 h]) (by simp)).2⟩,hb⟩⟩
end Go.Proofs.YtebgmdiejgcoiaaGreat
