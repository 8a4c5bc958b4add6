/- The law FnExactSameTable holds: for every argument the program's function answers true and leaves its arguments as they were. Conditions: none beyond the given row's. -/
import Derived.Test.YtnhpmgcllclhfaaZ1
import Derived.Test.YtnhpmgcllclhfaaG2
namespace Go.Proofs.Ytnhpmgcllclhfaa
open Go.RowKit Go.ChangeShapes Go.WideShapes Go.ChangeAt
set_option linter.unusedVariables false
set_option linter.unusedSimpArgs false

set_option maxRecDepth 100000 in
set_option maxHeartbeats 2000000 in
theorem fnExactSameTable_walk (a : Tab) (a_connsV : Value) (a_waitingV : Value) (b : Tab) (b_connsV : Value) (b_waitingV : Value) (w : World) (hl_a_connsV : Sl w a_connsV 25 (a.conns.map conR)) (hh_a_connsV : ∀ x ∈ a.conns, Sl w x.2 2 (x.1.r.held.map pceCells)) (hm_a_connsV : ∀ x ∈ a.conns, conMax x.1) (hl_a_waitingV : Sl w a_waitingV 3 (a.waiting.map tupCells)) (hl_b_connsV : Sl w b_connsV 25 (b.conns.map conR)) (hh_b_connsV : ∀ x ∈ b.conns, Sl w x.2 2 (x.1.r.held.map pceCells)) (hm_b_connsV : ∀ x ∈ b.conns, conMax x.1) (hl_b_waitingV : Sl w b_waitingV 3 (b.waiting.map tupCells)) : Calls Try.prog 4 #[.agg (tabL a a_connsV a_waitingV).toArray, .agg (tabL b b_connsV b_waitingV).toArray] w fun e w' => e = .returned (.bool true) ∧ Below w.heap.size w w' := by
 obtain ⟨Aac,Cac,hvac⟩ := hl_a_connsV.form
 rw [List.length_map] at hvac; subst hvac
 have hnac := hl_a_connsV.len; rw [List.length_map] at hnac
 have hqac := Sl.capLe hl_a_connsV
 obtain ⟨Aaw,Caw,hvaw⟩ := hl_a_waitingV.form
 rw [List.length_map] at hvaw; subst hvaw
 have hnaw := hl_a_waitingV.len; rw [List.length_map] at hnaw
 have hqaw := Sl.capLe hl_a_waitingV
 obtain ⟨Abc,Cbc,hvbc⟩ := hl_b_connsV.form
 rw [List.length_map] at hvbc; subst hvbc
 have hnbc := hl_b_connsV.len; rw [List.length_map] at hnbc
 have hqbc := Sl.capLe hl_b_connsV
 obtain ⟨Abw,Cbw,hvbw⟩ := hl_b_waitingV.form
 rw [List.length_map] at hvbw; subst hvbw
 have hnbw := hl_b_waitingV.len; rw [List.length_map] at hnbw
 have hqbw := Sl.capLe hl_b_waitingV
 refine x_calls (args := [.agg (tabL a (.slice Aac a.conns.length Cac) (.slice Aaw a.waiting.length Caw)).toArray,.agg (tabL b (.slice Abc b.conns.length Cbc) (.slice Abw b.waiting.length Cbw)).toArray]) (fn := Try.f4) [slF (.slice Aac a.conns.length Cac) 25 (a.conns.map conR),hldF a.conns,slF (.slice Aaw a.waiting.length Caw) 3 (a.waiting.map tupCells),slF (.slice Abc b.conns.length Cbc) 25 (b.conns.map conR),hldF b.conns,slF (.slice Abw b.waiting.length Cbw) 3 (b.waiting.map tupCells)] Try.func4 rfl Try.ntmps4 rfl (by simp only [List.mem_cons,List.not_mem_nil,or_false,forall_eq_or_imp,forall_eq]; exact ⟨⟨rfl,hl_a_connsV⟩,⟨rfl,hh_a_connsV⟩,⟨rfl,hl_a_waitingV⟩,⟨rfl,hl_b_connsV⟩,⟨rfl,hh_b_connsV⟩,⟨rfl,hl_b_waitingV⟩⟩) ?_
 refine kQ ?_
 refine kEF [2,3] ⟨[(2,.p 0 0),(3,.p 1 0)],[⟨25,tabL a (.slice Aac a.conns.length Cac) (.slice Aaw a.waiting.length Caw)⟩,⟨25,tabL b (.slice Abc b.conns.length Cbc) (.slice Abw b.waiting.length Cbw)⟩],[],[slF (.slice Aac a.conns.length Cac) 25 (a.conns.map conR),hldF a.conns,slF (.slice Aaw a.waiting.length Caw) 3 (a.waiting.map tupCells),slF (.slice Abc b.conns.length Cbc) 25 (b.conns.map conR),hldF b.conns,slF (.slice Abw b.waiting.length Cbw) 3 (b.waiting.map tupCells)]⟩ ?_
 refine kQ ?_
 refine kED [2,3,5] [(5,.v (.int .i64 1048576))] ?_
 refine kQ ?_
 refine kCD 2 [2,3,5,10,11] [(10,.v (.agg (tabL a (.slice Aac a.conns.length Cac) (.slice Aaw a.waiting.length Caw)).toArray)),(11,.v (.int .i64 1048576))] 10 [.agg (tabL a (.slice Aac a.conns.length Cac) (.slice Aaw a.waiting.length Caw)).toArray,.int .i64 1048576] (some 12) rfl (xc_e (α := Int) (F := fun y => .int .i64 y) (p := fun r => r = -1 ∨ (0 ≤ r ∧ r ≤ 1048576 ∧ (a.conns.length : Int) ≤ 1048576 ∧ (∀ x ∈ a.conns,ConFit 1048576 x.1) ∧ (a.waiting.length : Int) ≤ 1048576)) fun ww hf => yszTable_c a.conns a.waiting (.slice Aac a.conns.length Cac) (.slice Aaw a.waiting.length Caw) 1048576 ww (hf _ m0) (hf _ m1) (hf _ m2) (by omega) (by omega) hm_a_connsV) ?_
 rintro ⟨r1,hr1⟩
 refine kED [2,3,5] [(5,.v (.int .i64 r1))] ?_
 refine kS ?_
 refine kQ ?_
 refine kED [2,3,5,14] [(14,.v (.bool (decide (r1 < 0))))] ?_
 refine kC (decide (r1 < 0)) (fun h2 => ?_) (fun h2 => ?_)
 have h2p := of_decide_eq_true h2
 refine kQ ?_
 refine kES [4] [(4,.v (.bool true))] ?_
 refine kR ?_
 exact ⟨[.bool true],by kernel_rfl,fun w' hb hf => ⟨rfl,hb⟩⟩
 have h2p := of_decide_eq_false h2
 rcases hr1 with hr1 | ⟨hr1a,hr1b,hr1n,hr1c,hr1w⟩
 · omega
 have hfit_a_connsV : ∀ x ∈ a.conns,conFit x.1 := fun x hx => (hr1c x hx).fit (by omega)
 have hln_a_connsV : a.conns.length ≤ 1048576 := by omega
 have hlw_a_connsV : a.waiting.length ≤ 1048576 := by omega
 refine kK ?_
 refine kQ ?_
 refine kCD 2 [2,3,5,15,16] [(15,.v (.agg (tabL b (.slice Abc b.conns.length Cbc) (.slice Abw b.waiting.length Cbw)).toArray)),(16,.v (.int .i64 r1))] 10 [.agg (tabL b (.slice Abc b.conns.length Cbc) (.slice Abw b.waiting.length Cbw)).toArray,.int .i64 r1] (some 17) rfl (xc_e (α := Int) (F := fun y => .int .i64 y) (p := fun r => r = -1 ∨ (0 ≤ r ∧ r ≤ r1 ∧ (b.conns.length : Int) ≤ r1 ∧ (∀ x ∈ b.conns,ConFit r1 x.1) ∧ (b.waiting.length : Int) ≤ r1)) fun ww hf => yszTable_c b.conns b.waiting (.slice Abc b.conns.length Cbc) (.slice Abw b.waiting.length Cbw) r1 ww (hf _ m3) (hf _ m4) (hf _ m5) (by omega) (by omega) hm_b_connsV) ?_
 rintro ⟨r3,hr3⟩
 refine kED [2,3,5] [(5,.v (.int .i64 r3))] ?_
 refine kS ?_
 refine kQ ?_
 refine kED [2,3,19] [(19,.v (.bool (decide (r3 < 0))))] ?_
 refine kC (decide (r3 < 0)) (fun h4 => ?_) (fun h4 => ?_)
 have h4p := of_decide_eq_true h4
 refine kQ ?_
 refine kES [4] [(4,.v (.bool true))] ?_
 refine kR ?_
 exact ⟨[.bool true],by kernel_rfl,fun w' hb hf => ⟨rfl,hb⟩⟩
 have h4p := of_decide_eq_false h4
 rcases hr3 with hr3 | ⟨hr3a,hr3b,hr3n,hr3c,hr3w⟩
 · omega
 have hfit_b_connsV : ∀ x ∈ b.conns,conFit x.1 := fun x hx => (hr3c x hx).fit (by omega)
 have hln_b_connsV : b.conns.length ≤ 1048576 := by omega
 have hlw_b_connsV : b.waiting.length ≤ 1048576 := by omega
 refine kK ?_
 refine kS ?_
 refine xe_region [] (by kernel_rfl) (fun ρ σ => ?_)
 refine kTD [0,2] [22,20,2,3] 4 [(22,.v (.agg (tabL b (.slice Abc b.conns.length Cbc) (.slice Abw b.waiting.length Cbw)).toArray)),(20,.v (.agg (tabL a (.slice Aac a.conns.length Cac) (.slice Aaw a.waiting.length Caw)).toArray))] ?_
 refine kA [1] ?_
 refine kSC 1 12 [.agg (tabL a (.slice Aac a.conns.length Cac) (.slice Aaw a.waiting.length Caw)).toArray] (some 21) rfl (xc_r fun ww hw hf => ytoTable_c a (.slice Aac a.conns.length Cac) (.slice Aaw a.waiting.length Caw) ww (hf _ m0) (hf _ m1) (hf _ m2) (by assumption) (by omega) (by omega) w.heap.size hw) ?_
 rintro ⟨⟨t5l,ht5l⟩,⟨t5a,t5c⟩,⟨t5d,t5e⟩⟩
 dsimp only
 have hfit_t5l : ∀ x ∈ t5l,conFit x.1 := conFit_pl ht5l (by assumption)
 refine kA [3] ?_
 refine kSC 3 12 [.agg (tabL b (.slice Abc b.conns.length Cbc) (.slice Abw b.waiting.length Cbw)).toArray] (some 23) rfl (xc_r fun ww hw hf => ytoTable_c b (.slice Abc b.conns.length Cbc) (.slice Abw b.waiting.length Cbw) ww (hf _ m6) (hf _ m7) (hf (slF (.slice Abw b.waiting.length Cbw) 3 (b.waiting.map tupCells)) (by simp)) (by assumption) (by omega) (by omega) w.heap.size hw) ?_
 rintro ⟨⟨t6l,ht6l⟩,⟨t6a,t6c⟩,⟨t6d,t6e⟩⟩
 dsimp only
 have hfit_t6l : ∀ x ∈ t6l,conFit x.1 := conFit_pl ht6l (by assumption)
 refine kA [4] ?_
 refine kSC 4 16 [.agg (tabL { a with conns := t5l } (.slice t5a t5l.length t5c) (.slice t5d a.waiting.length t5e)).toArray,.agg (tabL { b with conns := t6l } (.slice t6a t6l.length t6c) (.slice t6d b.waiting.length t6e)).toArray] (some 24) rfl (xc_b fun ww hf => ysSameTable_c ({ a with conns := t5l }) (.slice t5a t5l.length t5c) (.slice t5d a.waiting.length t5e) ({ b with conns := t6l }) (.slice t6a t6l.length t6c) (.slice t6d b.waiting.length t6e) ww (rowF_sl (hf _ m3)) (hownF_sl (hf _ m4)) (Own.sl (hf _ m5)) (rowF_sl (hf _ m0)) (hownF_sl (hf _ m1)) (Own.sl (hf _ m2)) ) ?_
 intro _
 refine kTD [5] [6,2,3] 0 [(6,.v (.bool (sameTable ({ a with conns := t5l }) ({ b with conns := t6l }))))] ?_
 refine kZ ?_
 refine kQ ?_
 refine kCD 1 [2,3,6,25] [(25,.v (.agg (tabL a (.slice Aac a.conns.length Cac) (.slice Aaw a.waiting.length Caw)).toArray))] 12 [.agg (tabL a (.slice Aac a.conns.length Cac) (.slice Aaw a.waiting.length Caw)).toArray] (some 26) rfl (xc_r fun ww hw hf => ytoTable_c a (.slice Aac a.conns.length Cac) (.slice Aaw a.waiting.length Caw) ww (hf _ m6) (hf _ m7) (hf (slF (.slice Aaw a.waiting.length Caw) 3 (a.waiting.map tupCells)) (by simp)) (by assumption) (by omega) (by omega) w.heap.size hw) ?_
 rintro ⟨⟨t7l,ht7l⟩,⟨t7a,t7c⟩,⟨t7d,t7e⟩⟩
 dsimp only
 have hfit_t7l : ∀ x ∈ t7l,conFit x.1 := conFit_pl ht7l (by assumption)
 refine kEF [2,3,6,7] ⟨[(2,.p 0 0),(3,.p 1 0),(6,.v (.bool (sameTable ({ a with conns := t5l }) ({ b with conns := t6l })))),(7,.p 2 0)],[⟨25,tabL a (.slice Aac a.conns.length Cac) (.slice Aaw a.waiting.length Caw)⟩,⟨25,tabL b (.slice Abc b.conns.length Cbc) (.slice Abw b.waiting.length Cbw)⟩,⟨33,tabL { a with conns := t7l } (.slice t7a t7l.length t7c) (.slice t7d a.waiting.length t7e)⟩],[],[rowF w.heap.size 68 25 (.slice t7a t7l.length t7c) (t7l.map conR),hownF w.heap.size t7l,ownF w.heap.size (.slice t7d a.waiting.length t7e) 3 (a.waiting.map tupCells),rowF w.heap.size 68 25 (.slice t6a t6l.length t6c) (t6l.map conR),hownF w.heap.size t6l,ownF w.heap.size (.slice t6d b.waiting.length t6e) 3 (b.waiting.map tupCells),rowF w.heap.size 68 25 (.slice t5a t5l.length t5c) (t5l.map conR),hownF w.heap.size t5l,ownF w.heap.size (.slice t5d a.waiting.length t5e) 3 (a.waiting.map tupCells),slF (.slice Aac a.conns.length Cac) 25 (a.conns.map conR),hldF a.conns,slF (.slice Aaw a.waiting.length Caw) 3 (a.waiting.map tupCells),slF (.slice Abc b.conns.length Cbc) 25 (b.conns.map conR),hldF b.conns,slF (.slice Abw b.waiting.length Cbw) 3 (b.waiting.map tupCells)]⟩ ?_
 refine kQ ?_
 refine kCD 1 [2,3,6,7,27] [(27,.v (.agg (tabL b (.slice Abc b.conns.length Cbc) (.slice Abw b.waiting.length Cbw)).toArray))] 12 [.agg (tabL b (.slice Abc b.conns.length Cbc) (.slice Abw b.waiting.length Cbw)).toArray] (some 28) rfl (xc_r fun ww hw hf => ytoTable_c b (.slice Abc b.conns.length Cbc) (.slice Abw b.waiting.length Cbw) ww (hf (slF (.slice Abc b.conns.length Cbc) 25 (b.conns.map conR)) (by simp)) (hf (hldF b.conns) (by simp)) (hf (slF (.slice Abw b.waiting.length Cbw) 3 (b.waiting.map tupCells)) (by simp)) (by assumption) (by omega) (by omega) w.heap.size hw) ?_
 rintro ⟨⟨t8l,ht8l⟩,⟨t8a,t8c⟩,⟨t8d,t8e⟩⟩
 dsimp only
 have hfit_t8l : ∀ x ∈ t8l,conFit x.1 := conFit_pl ht8l (by assumption)
 refine kEA [2,3,6,7,8] [(8,.p 3 0)] [⟨33,tabL { b with conns := t8l } (.slice t8a t8l.length t8c) (.slice t8d b.waiting.length t8e)⟩] ?_
 refine kQ ?_
 refine kCD 2 [2,3,6,7,8,29,30] [(29,.v (.agg (tabL { a with conns := t7l } (.slice t7a t7l.length t7c) (.slice t7d a.waiting.length t7e)).toArray)),(30,.v (.agg (tabL { b with conns := t8l } (.slice t8a t8l.length t8c) (.slice t8d b.waiting.length t8e)).toArray))] 17 [.agg (tabL { a with conns := t7l } (.slice t7a t7l.length t7c) (.slice t7d a.waiting.length t7e)).toArray,.agg (tabL { b with conns := t8l } (.slice t8a t8l.length t8c) (.slice t8d b.waiting.length t8e)).toArray] (some 31) rfl (xc_b fun ww hf => yiSameTable_c ({ a with conns := t7l }) (.slice t7a t7l.length t7c) (.slice t7d a.waiting.length t7e) ({ b with conns := t8l }) (.slice t8a t8l.length t8c) (.slice t8d b.waiting.length t8e) ww (rowF_sl (hf _ m3)) (hownF_sl (hf _ m4)) (Own.sl (hf _ m5)) (rowF_sl (hf _ m0)) (hownF_sl (hf _ m1)) (Own.sl (hf _ m2)) ) ?_
 intro _
 refine kED [2,3,6,7,8,9] [(9,.v (.bool (sameTable ({ a with conns := t7l }) ({ b with conns := t8l }))))] ?_
 refine kS ?_
 refine kQ ?_
 refine kED [2,3,7,8,34] [(34,.v (.bool (!((sameTable ({ a with conns := t7l }) ({ b with conns := t8l })) == (sameTable ({ a with conns := t5l }) ({ b with conns := t6l }))))))] ?_
 refine kC (!((sameTable ({ a with conns := t7l }) ({ b with conns := t8l })) == (sameTable ({ a with conns := t5l }) ({ b with conns := t6l })))) (fun h9 => ?_) (fun h9 => ?_)
 have h9n := not_t h9
 have h9np := eqF h9n
 have e0 := sameTable_pl (a := ⟨t7l,a.waiting⟩) (a' := a) (b := ⟨t8l,b.waiting⟩) (b' := b) ht7l rfl ht8l rfl
 have e1 := sameTable_pl (a := ⟨t5l,a.waiting⟩) (a' := a) (b := ⟨t6l,b.waiting⟩) (b' := b) ht5l rfl ht6l rfl
 exfalso; rw [e0,e1] at h9n; simp at h9n
 have h9n := not_f h9
 have h9np := eqT h9n
 refine kK ?_
 refine kS ?_
 refine kS ?_
 refine xe_region [] (by kernel_rfl) (fun ρ σ => ?_)
 refine kTD [0,1] [36,35,3,8] 3 [(36,.v (.agg (tabL a (.slice Aac a.conns.length Cac) (.slice Aaw a.waiting.length Caw)).toArray)),(35,.v (.agg (tabL { a with conns := t7l } (.slice t7a t7l.length t7c) (.slice t7d a.waiting.length t7e)).toArray))] ?_
 refine kA [2] ?_
 refine kSC 2 12 [.agg (tabL a (.slice Aac a.conns.length Cac) (.slice Aaw a.waiting.length Caw)).toArray] (some 37) rfl (xc_r fun ww hw hf => ytoTable_c a (.slice Aac a.conns.length Cac) (.slice Aaw a.waiting.length Caw) ww (hf (slF (.slice Aac a.conns.length Cac) 25 (a.conns.map conR)) (by simp)) (hf (hldF a.conns) (by simp)) (hf (slF (.slice Aaw a.waiting.length Caw) 3 (a.waiting.map tupCells)) (by simp)) (by assumption) (by omega) (by omega) w.heap.size hw) ?_
 rintro ⟨⟨t10l,ht10l⟩,⟨t10a,t10c⟩,⟨t10d,t10e⟩⟩
 dsimp only
 have hfit_t10l : ∀ x ∈ t10l,conFit x.1 := conFit_pl ht10l (by assumption)
 refine kA [3] ?_
 refine kSC 3 15 [.agg (tabL { a with conns := t7l } (.slice t7a t7l.length t7c) (.slice t7d a.waiting.length t7e)).toArray,.agg (tabL { a with conns := t10l } (.slice t10a t10l.length t10c) (.slice t10d a.waiting.length t10e)).toArray] (some 38) rfl (xc_b fun ww hf => yeqTable_c t7l a.waiting (.slice t7a t7l.length t7c) (.slice t7d a.waiting.length t7e) t10l (.slice t10a t10l.length t10c) (.slice t10d a.waiting.length t10e) ww (rowF_sl (hf _ m6)) (hownF_sl (hf _ m7)) (Own.sl (hf (ownF w.heap.size (.slice t7d a.waiting.length t7e) 3 (a.waiting.map tupCells)) (by simp))) (rowF_sl (hf _ m0)) (hownF_sl (hf _ m1)) (Own.sl (hf _ m2)) (by first | assumption | (simp only [ht7l,ht10l]; done))) ?_
 intro _
 refine kTD [4] [39,3,8] 0 [(39,.v (.bool false))] ?_
 refine kZ ?_
 refine kN ?_
 refine kK ?_
 refine kS ?_
 refine kS ?_
 refine xe_region [] (by kernel_rfl) (fun ρ σ => ?_)
 refine kTS [0,1] [41,40] 3 [(41,.v (.agg (tabL b (.slice Abc b.conns.length Cbc) (.slice Abw b.waiting.length Cbw)).toArray)),(40,.v (.agg (tabL { b with conns := t8l } (.slice t8a t8l.length t8c) (.slice t8d b.waiting.length t8e)).toArray))] ?_
 refine kA [2] ?_
 refine kSC 2 12 [.agg (tabL b (.slice Abc b.conns.length Cbc) (.slice Abw b.waiting.length Cbw)).toArray] (some 42) rfl (xc_r fun ww hw hf => ytoTable_c b (.slice Abc b.conns.length Cbc) (.slice Abw b.waiting.length Cbw) ww (hf (slF (.slice Abc b.conns.length Cbc) 25 (b.conns.map conR)) (by simp)) (hf (hldF b.conns) (by simp)) (hf (slF (.slice Abw b.waiting.length Cbw) 3 (b.waiting.map tupCells)) (by simp)) (by assumption) (by omega) (by omega) w.heap.size hw) ?_
 rintro ⟨⟨t11l,ht11l⟩,⟨t11a,t11c⟩,⟨t11d,t11e⟩⟩
 dsimp only
 have hfit_t11l : ∀ x ∈ t11l,conFit x.1 := conFit_pl ht11l (by assumption)
 refine kA [3] ?_
 refine kSC 3 15 [.agg (tabL { b with conns := t8l } (.slice t8a t8l.length t8c) (.slice t8d b.waiting.length t8e)).toArray,.agg (tabL { b with conns := t11l } (.slice t11a t11l.length t11c) (.slice t11d b.waiting.length t11e)).toArray] (some 43) rfl (xc_b fun ww hf => yeqTable_c t8l b.waiting (.slice t8a t8l.length t8c) (.slice t8d b.waiting.length t8e) t11l (.slice t11a t11l.length t11c) (.slice t11d b.waiting.length t11e) ww (rowF_sl (hf _ m6)) (hownF_sl (hf _ m7)) (Own.sl (hf (ownF w.heap.size (.slice t8d b.waiting.length t8e) 3 (b.waiting.map tupCells)) (by simp))) (rowF_sl (hf _ m0)) (hownF_sl (hf _ m1)) (Own.sl (hf _ m2)) (by first | assumption | (simp only [ht8l,ht11l]; done))) ?_
 intro _
 refine kTS [4] [44] 0 [(44,.v (.bool false))] ?_
 refine kZ ?_
 refine kN ?_
 refine kK ?_
 refine kQ ?_
 refine kES [4] [(4,.v (.bool true))] ?_
 refine kR ?_
 exact ⟨[.bool true],by kernel_rfl,fun w' hb hf => ⟨rfl,hb⟩⟩

set_option maxRecDepth 100000 in
theorem fnExactSameTable_lifted (os : Os) (started : os.Started) (H : Type) (enc : TypeId × Value → H) :
    ReturnsInHanded {} Try.checked os 4 .any (Rows.fnExactSameTableSpec.pre6 enc Try.prog Try.f4 Rows.fnExactSameTableRow.domain false) (Rows.fnExactSameTableSpec.post enc Try.prog Try.f4 false true false false) := by
  refine returnsInHanded_of_change (C := Try.checked) Try.ownK started (by kernel_rfl) Try.func4
    (ChangeSpec.witness6 (enc := enc) (C := Try.checked) false ⟨#[], #[.agg #[.slice none 0 0, .slice none 0 0], .agg #[.slice none 0 0, .slice none 0 0]], []⟩ 8 (by kernel_rfl) (by kernel_rfl) (by kernel_rfl) (by kernel_rfl)) ?_
  intro W base args ds gs before hval0 hW hcnd _
  have hval : ∀ (j : Nat) t v, Try.f4.params[j]? = some t → args[j]? = some v → Value.okWide Try.prog W .any base t v := hval0
  have hW' := hW
  obtain ⟨p, q, hA0, hV, rfl, hfz, hnd⟩ := hW
  have hA : DataW.TrodAll enc Try.prog W 0 (fun _ => true) true Try.f4.params.toList args.toList ds p := hA0
  rw [Try.params4] at hA hval
  obtain ⟨v0, vs0, d0, ds0, p0, q0, hargs, rfl, rfl, h0, r0⟩ := trodAll_cons hA
  obtain ⟨v1, vs1, d1, ds1, p1, q1, rfl, rfl, rfl, h1, r1⟩ := trodAll_cons r0
  obtain ⟨rfl, rfl, rfl⟩ := trodAll_nil r1
  obtain rfl : args = #[v0, v1] := by cases args; simp_all
  obtain ⟨rfl, rfl⟩ := trodVars_none hV
  clear hA0 hval0
  have g0 := h0
  have g1 := h1
  obtain ⟨cs0, rfl, -⟩ := okWide_struct Try.underlying25 (hval 0 _ v0 rfl rfl)
  obtain ⟨fuel0, f0⟩ := g0
  obtain ⟨a_conns_v, a_waiting_v, e0, F_a_conns, F_a_waiting⟩ := open_TAB f0
  obtain rfl : cs0 = #[a_conns_v, a_waiting_v] := by cases cs0; simpa [Value.cells] using e0
  clear e0
  obtain ⟨_, _, T_a_conns⟩ := F_a_conns
  obtain ⟨a_conns, L_a_conns, H_a_conns, M_a_conns⟩ := openSc_CON T_a_conns
  obtain ⟨_, _, T_a_waiting⟩ := F_a_waiting
  obtain ⟨a_waiting, L_a_waiting⟩ := openSc_TUP T_a_waiting
  obtain ⟨cs1, rfl, -⟩ := okWide_struct Try.underlying25 (hval 1 _ v1 rfl rfl)
  obtain ⟨fuel1, f1⟩ := g1
  obtain ⟨b_conns_v, b_waiting_v, e1, F_b_conns, F_b_waiting⟩ := open_TAB f1
  obtain rfl : cs1 = #[b_conns_v, b_waiting_v] := by cases cs1; simpa [Value.cells] using e1
  clear e1
  obtain ⟨_, _, T_b_conns⟩ := F_b_conns
  obtain ⟨b_conns, L_b_conns, H_b_conns, M_b_conns⟩ := openSc_CON T_b_conns
  obtain ⟨_, _, T_b_waiting⟩ := F_b_waiting
  obtain ⟨b_waiting, L_b_waiting⟩ := openSc_TUP T_b_waiting
  refine (fnExactSameTable_walk (⟨a_conns, a_waiting⟩ : Tab) a_conns_v a_waiting_v (⟨b_conns, b_waiting⟩ : Tab) b_conns_v b_waiting_v W L_a_conns H_a_conns M_a_conns L_a_waiting L_b_conns H_b_conns M_b_conns L_b_waiting).mono fun e W' ⟨he, hb⟩ => ?_
  subst he
  have hlt : ∀ x ∈ (p0 ++ (p1 ++ ([]))) ++ [], x.block < W.heap.size := fun x hx => hW'.lt x hx
  refine ⟨_, rfl, post_of_below (pa := (p0 ++ (p1 ++ ([])))) (pv := []) hW' (fun _ _ _ => trodAll_cons_mk (shut_bool Try.underlying4 _) trodAll_mk0) (fun sp hsp => trodAll_cons_mk (WideElems.Trod_stays Try.laidOut (by kernel_rfl) (of_decide_eq_true (by kernel_rfl)) h0 (fun x hx => hb.same (hlt x (List.mem_append_left _ (List.mem_append_left _ hx)))) (fun x hx => hsp x (List.mem_append_left _ (List.mem_append_left _ hx)))) (trodAll_cons_mk (WideElems.Trod_stays Try.laidOut (by kernel_rfl) (of_decide_eq_true (by kernel_rfl)) h1 (fun x hx => hb.same (hlt x (List.mem_append_left _ (List.mem_append_right _ (List.mem_append_left _ hx))))) (fun x hx => hsp x (List.mem_append_left _ (List.mem_append_right _ (List.mem_append_left _ hx))))) (trodAll_mk0))) (fun _ _ => rfl) rfl hb (ok_one (by kernel_rfl) rfl (okWide_bool_mk Try.underlying4 _))⟩

theorem fnExactSameTable_over : Rows.fnExactSameTableRow.holds Try.pinned (OpenSpec.ofChange Rows.fnExactSameTableSpec) :=
  OpenClaim.holds_of_wide 4 Try.f4 rfl rfl rfl rfl rfl rfl rfl ⟨rfl, rfl, rfl, rfl, rfl⟩ rfl rfl rfl rfl rfl (by kernel_rfl) Try.func4 (by kernel_rfl)
    (of_decide_eq_true (by kernel_rfl)) (by unfold Func.isWrapper; first | (rw [if_pos (by decide +kernel)]; kernel_rfl) | (rw [if_neg (by decide +kernel)]; exact ⟨rfl, rfl⟩))
    (fun os started H enc _ => fnExactSameTable_lifted os started H enc)

theorem fnExactSameTable_holds : Rows.FnExactSameTableSaid := fnExactSameTable_over
#print axioms fnExactSameTable_holds
end Go.Proofs.Ytnhpmgcllclhfaa
