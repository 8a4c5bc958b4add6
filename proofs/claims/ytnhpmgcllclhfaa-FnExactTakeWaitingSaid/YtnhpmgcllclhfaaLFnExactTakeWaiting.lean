/- The law FnExactTakeWaiting holds: for every argument the program's function answers true and leaves its arguments as they were. Conditions: none beyond the given row's. -/
import Derived.Test.YtnhpmgcllclhfaaZ2
import Derived.Test.YtnhpmgcllclhfaaG3
namespace Go.Proofs.Ytnhpmgcllclhfaa
open Go.RowKit Go.ChangeShapes Go.WideShapes Go.ChangeAt
set_option linter.unusedVariables false
set_option linter.unusedSimpArgs false

set_option maxRecDepth 100000 in
set_option maxHeartbeats 2000000 in
theorem fnExactTakeWaiting_walk (t : Tab) (t_connsV : Value) (t_waitingV : Value) (w : World) (hl_t_connsV : Sl w t_connsV 25 (t.conns.map conR)) (hh_t_connsV : ∀ x ∈ t.conns, Sl w x.2 2 (x.1.r.held.map pceCells)) (hm_t_connsV : ∀ x ∈ t.conns, conMax x.1) (hl_t_waitingV : Sl w t_waitingV 3 (t.waiting.map tupCells)) : Calls Try.prog 6 #[.agg (tabL t t_connsV t_waitingV).toArray] w fun e w' => e = .returned (.bool true) ∧ Below w.heap.size w w' := by
 obtain ⟨Atc,Ctc,hvtc⟩ := hl_t_connsV.form
 rw [List.length_map] at hvtc; subst hvtc
 have hntc := hl_t_connsV.len; rw [List.length_map] at hntc
 have hqtc := Sl.capLe hl_t_connsV
 obtain ⟨Atw,Ctw,hvtw⟩ := hl_t_waitingV.form
 rw [List.length_map] at hvtw; subst hvtw
 have hntw := hl_t_waitingV.len; rw [List.length_map] at hntw
 have hqtw := Sl.capLe hl_t_waitingV
 refine x_calls (args := [.agg (tabL t (.slice Atc t.conns.length Ctc) (.slice Atw t.waiting.length Ctw)).toArray]) (fn := Try.f6) [slF (.slice Atc t.conns.length Ctc) 25 (t.conns.map conR),hldF t.conns,slF (.slice Atw t.waiting.length Ctw) 3 (t.waiting.map tupCells)] Try.func6 rfl Try.ntmps6 rfl (by simp only [List.mem_cons,List.not_mem_nil,or_false,forall_eq_or_imp,forall_eq]; exact ⟨⟨rfl,hl_t_connsV⟩,⟨rfl,hh_t_connsV⟩,⟨rfl,hl_t_waitingV⟩⟩) ?_
 refine kQ ?_
 refine kEF [1] ⟨[(1,.p 0 0)],[⟨25,tabL t (.slice Atc t.conns.length Ctc) (.slice Atw t.waiting.length Ctw)⟩],[],[slF (.slice Atc t.conns.length Ctc) 25 (t.conns.map conR),hldF t.conns,slF (.slice Atw t.waiting.length Ctw) 3 (t.waiting.map tupCells)]⟩ ?_
 refine kQ ?_
 refine kED [1,3] [(3,.v (.int .i64 1048576))] ?_
 refine kQ ?_
 refine kCD 2 [1,3,17,18] [(17,.v (.agg (tabL t (.slice Atc t.conns.length Ctc) (.slice Atw t.waiting.length Ctw)).toArray)),(18,.v (.int .i64 1048576))] 10 [.agg (tabL t (.slice Atc t.conns.length Ctc) (.slice Atw t.waiting.length Ctw)).toArray,.int .i64 1048576] (some 19) rfl (xc_e (α := Int) (F := fun y => .int .i64 y) (p := fun r => r = -1 ∨ (0 ≤ r ∧ r ≤ 1048576 ∧ (t.conns.length : Int) ≤ 1048576 ∧ (∀ x ∈ t.conns,ConFit 1048576 x.1) ∧ (t.waiting.length : Int) ≤ 1048576)) fun ww hf => yszTable_c t.conns t.waiting (.slice Atc t.conns.length Ctc) (.slice Atw t.waiting.length Ctw) 1048576 ww (hf _ m0) (hf _ m1) (hf _ m2) (by omega) (by omega) hm_t_connsV) ?_
 rintro ⟨r1,hr1⟩
 refine kED [1,3] [(3,.v (.int .i64 r1))] ?_
 refine kS ?_
 refine kQ ?_
 refine kED [1,21] [(21,.v (.bool (decide (r1 < 0))))] ?_
 refine kC (decide (r1 < 0)) (fun h2 => ?_) (fun h2 => ?_)
 have h2p := of_decide_eq_true h2
 refine kQ ?_
 refine kES [2] [(2,.v (.bool true))] ?_
 refine kR ?_
 exact ⟨[.bool true],by kernel_rfl,fun w' hb hf => ⟨rfl,hb⟩⟩
 have h2p := of_decide_eq_false h2
 rcases hr1 with hr1 | ⟨hr1a,hr1b,hr1n,hr1c,hr1w⟩
 · omega
 have hfit_t_connsV : ∀ x ∈ t.conns,conFit x.1 := fun x hx => (hr1c x hx).fit (by omega)
 have hln_t_connsV : t.conns.length ≤ 1048576 := by omega
 have hlw_t_connsV : t.waiting.length ≤ 1048576 := by omega
 refine kK ?_
 refine kQ ?_
 refine kCD 1 [1,23] [(23,.v (.agg (tabL t (.slice Atc t.conns.length Ctc) (.slice Atw t.waiting.length Ctw)).toArray))] 12 [.agg (tabL t (.slice Atc t.conns.length Ctc) (.slice Atw t.waiting.length Ctw)).toArray] (some 24) rfl (xc_r fun ww hw hf => ytoTable_c t (.slice Atc t.conns.length Ctc) (.slice Atw t.waiting.length Ctw) ww (hf _ m0) (hf _ m1) (hf _ m2) (by assumption) (by omega) (by omega) w.heap.size hw) ?_
 rintro ⟨⟨t3l,ht3l⟩,⟨t3a,t3c⟩,⟨t3d,t3e⟩⟩
 dsimp only
 have hfit_t3l : ∀ x ∈ t3l,conFit x.1 := conFit_pl ht3l (by assumption)
 have hlen_t3l := pl_len ht3l
 refine kCD 0 [1,24] [] 21 [.agg (tabL { t with conns := t3l } (.slice t3a t3l.length t3c) (.slice t3d t.waiting.length t3e)).toArray] (some 25) rfl (xc_r fun ww hw hf => ysTakeWaiting_c ({ t with conns := t3l }) (.slice t3a t3l.length t3c) (.slice t3d t.waiting.length t3e) ww (rowF_sl (hf _ m0)) (hownF_sl (hf _ m1)) (Own.sl (hf _ m2)) (by first | assumption | (dsimp only; assumption)) (by first | assumption | omega | (dsimp only; omega)) (by first | assumption | omega | (dsimp only; omega)) w.heap.size hw) ?_
 rintro ⟨⟨t4l,ht4l⟩,⟨t4a,t4c⟩,⟨t4d,t4e⟩⟩
 dsimp only
 replace ht4l : pl t4l = pl t.conns := ht4l.trans (ht3l)
 rw [show takeW ({ t with conns := t3l }) = takeW t from rfl]
 have hfit_t4l : ∀ x ∈ t4l,conFit x.1 := conFit_pl ht4l hfit_t_connsV
 have hlen_t4l := pl_len ht4l
 have hdl : (takeW t).length ≤ 1048576 := (by rw [← takeW_len]; omega)
 refine kEA [1,4,5,6] [(4,.p 1 0),(5,.p 2 0),(6,.v (.bool (!t.waiting.isEmpty)))] [⟨33,[.slice t4a t4l.length t4c,.slice t4d ((takeW t).length) t4e]⟩,⟨35,tupL (t.waiting.headD ⟨0,0,0⟩)⟩] ?_
 refine kQ ?_
 refine kCD 1 [1,4,5,6,29] [(29,.v (.agg (tabL t (.slice Atc t.conns.length Ctc) (.slice Atw t.waiting.length Ctw)).toArray))] 12 [.agg (tabL t (.slice Atc t.conns.length Ctc) (.slice Atw t.waiting.length Ctw)).toArray] (some 30) rfl (xc_r fun ww hw hf => ytoTable_c t (.slice Atc t.conns.length Ctc) (.slice Atw t.waiting.length Ctw) ww (hf _ m6) (hf _ m7) (hf (slF (.slice Atw t.waiting.length Ctw) 3 (t.waiting.map tupCells)) (by simp)) (by assumption) (by omega) (by omega) w.heap.size hw) ?_
 rintro ⟨⟨t5l,ht5l⟩,⟨t5a,t5c⟩,⟨t5d,t5e⟩⟩
 dsimp only
 have hfit_t5l : ∀ x ∈ t5l,conFit x.1 := conFit_pl ht5l (by assumption)
 have hlen_t5l := pl_len ht5l
 refine kEA [1,4,5,6,7] [(7,.p 3 0)] [⟨33,tabL { t with conns := t5l } (.slice t5a t5l.length t5c) (.slice t5d t.waiting.length t5e)⟩] ?_
 refine kQ ?_
 refine kCD 1 [1,4,5,6,7,32] [(32,.v (.agg (tabL { t with conns := t5l } (.slice t5a t5l.length t5c) (.slice t5d t.waiting.length t5e)).toArray))] 22 [.agg (tabL { t with conns := t5l } (.slice t5a t5l.length t5c) (.slice t5d t.waiting.length t5e)).toArray] (some 33) rfl (xc_r fun ww hw hf => yiTakeWaiting_c ({ t with conns := t5l }) (.slice t5a t5l.length t5c) (.slice t5d t.waiting.length t5e) ww (rowF_sl (hf _ m0)) (hownF_sl (hf _ m1)) (Own.sl (hf _ m2)) (by first | assumption | (dsimp only; assumption)) (by first | assumption | omega | (dsimp only; omega)) (by first | assumption | omega | (dsimp only; omega)) w.heap.size hw) ?_
 rintro ⟨⟨t6l,ht6l⟩,⟨t6a,t6c⟩,⟨t6d,t6e⟩⟩
 dsimp only
 replace ht6l : pl t6l = pl t.conns := ht6l.trans (ht5l)
 rw [show takeW ({ t with conns := t5l }) = takeW t from rfl]
 have hfit_t6l : ∀ x ∈ t6l,conFit x.1 := conFit_pl ht6l hfit_t_connsV
 have hlen_t6l := pl_len ht6l
 have hdl : (takeW t).length ≤ 1048576 := (by rw [← takeW_len]; omega)
 refine kEF [1,4,5,6,7,8,9,10] ⟨[(1,.p 0 0),(4,.p 1 0),(5,.p 2 0),(6,.v (.bool (!t.waiting.isEmpty))),(7,.p 3 0),(8,.p 4 0),(9,.p 5 0),(10,.v (.bool (!t.waiting.isEmpty)))],[⟨25,tabL t (.slice Atc t.conns.length Ctc) (.slice Atw t.waiting.length Ctw)⟩,⟨33,[.slice t4a t4l.length t4c,.slice t4d ((takeW t).length) t4e]⟩,⟨35,tupL (t.waiting.headD ⟨0,0,0⟩)⟩,⟨33,tabL { t with conns := t5l } (.slice t5a t5l.length t5c) (.slice t5d t.waiting.length t5e)⟩,⟨33,[.slice t6a t6l.length t6c,.slice t6d ((takeW t).length) t6e]⟩,⟨35,tupL (t.waiting.headD ⟨0,0,0⟩)⟩],[],[rowF w.heap.size 68 25 (.slice t6a t6l.length t6c) (t6l.map conR),hownF w.heap.size t6l,ownF w.heap.size (.slice t6d ((takeW t).length) t6e) 3 ((takeW t).map tupCells),rowF w.heap.size 68 25 (.slice t5a t5l.length t5c) (t5l.map conR),hownF w.heap.size t5l,ownF w.heap.size (.slice t5d t.waiting.length t5e) 3 (t.waiting.map tupCells),rowF w.heap.size 68 25 (.slice t4a t4l.length t4c) (t4l.map conR),hownF w.heap.size t4l,rowF w.heap.size 35 3 (.slice t4d ((takeW t).length) t4e) ((takeW t).map tupCells),rowF w.heap.size 68 25 (.slice t3a t3l.length t3c) (t3l.map conR),hownF w.heap.size t3l,ownF w.heap.size (.slice t3d t.waiting.length t3e) 3 (t.waiting.map tupCells),slF (.slice Atc t.conns.length Ctc) 25 (t.conns.map conR),hldF t.conns,slF (.slice Atw t.waiting.length Ctw) 3 (t.waiting.map tupCells)]⟩ ?_
 refine kS ?_
 refine kQ ?_
 refine kCD 2 [1,4,5,6,7,8,9,10,37,38] [(37,.v (.agg #[.slice t6a t6l.length t6c,.slice t6d ((takeW t).length) t6e])),(38,.v (.agg #[.slice t4a t4l.length t4c,.slice t4d ((takeW t).length) t4e]))] 15 [.agg #[.slice t6a t6l.length t6c,.slice t6d ((takeW t).length) t6e],.agg #[.slice t4a t4l.length t4c,.slice t4d ((takeW t).length) t4e]] (some 39) rfl (xc_b fun ww hf => yeqTable_c t6l (takeW t) (.slice t6a t6l.length t6c) (.slice t6d ((takeW t).length) t6e) t4l (.slice t4a t4l.length t4c) (.slice t4d ((takeW t).length) t4e) ww (rowF_sl (hf _ m0)) (hownF_sl (hf _ m1)) (Own.sl (hf _ m2)) (rowF_sl (hf _ m6)) (hownF_sl (hf _ m7)) (rowF_sl (hf (rowF w.heap.size 35 3 (.slice t4d ((takeW t).length) t4e) ((takeW t).map tupCells)) (by simp))) (by first | assumption | (simp only [ht6l,ht4l]; done))) ?_
 intro _
 refine kCD 4 [1,4,5,6,7,8,9,10,41,42,43] [(41,.v (.bool false)),(42,.v (.agg (tupL (t.waiting.headD ⟨0,0,0⟩)).toArray)),(43,.v (.agg (tupL (t.waiting.headD ⟨0,0,0⟩)).toArray))] 23 [.agg (tupL (t.waiting.headD ⟨0,0,0⟩)).toArray,.agg (tupL (t.waiting.headD ⟨0,0,0⟩)).toArray] (some 44) rfl (xc_b fun ww hf => eqTuple_c ((t.waiting.headD ⟨0,0,0⟩).ip) ((t.waiting.headD ⟨0,0,0⟩).port) ((t.waiting.headD ⟨0,0,0⟩).my) ww) ?_
 intro _
 refine kED [1,4,5,6,7,8,9,10,51] [(51,.v (.bool (!((!t.waiting.isEmpty) == (!t.waiting.isEmpty)))))] ?_
 refine kC (!((!t.waiting.isEmpty) == (!t.waiting.isEmpty))) (fun h7 => ?_) (fun h7 => ?_)
 have h7n := not_t h7
 simp at h7n
 have h7n := not_f h7
 have h7np := eqT h7n
 refine kK ?_
 refine kS ?_
 refine kS ?_
 refine xe_region [] (by kernel_rfl) (fun ρ σ => ?_)
 refine xe_cutX (α := {zz : List CV × Option Addr × Nat × Option Addr × Nat // (fun (t109l : List CV) (t109a : Option Addr) (t109c : Nat) (t109d : Option Addr) (t109e : Nat) => pl t109l = pl t.conns) zz.1 zz.2.1 zz.2.2.1 zz.2.2.2.1 zz.2.2.2.2}) (fun zz => (fun (t109l : List CV) (t109a : Option Addr) (t109c : Nat) (t109d : Option Addr) (t109e : Nat) => [(55,.v (.bool true))]) zz.1.1 zz.1.2.1 zz.1.2.2.1 zz.1.2.2.2.1 zz.1.2.2.2.2) [1,4,5,6,7,8,9,10,55] (fun _ => []) (fun zz => (fun (t109l : List CV) (t109a : Option Addr) (t109c : Nat) (t109d : Option Addr) (t109e : Nat) => [hownF w.heap.size t109l,ownF w.heap.size (.slice t109d t.waiting.length t109e) 3 (t.waiting.map tupCells),rowF w.heap.size 68 25 (.slice t109a t109l.length t109c) (t109l.map conR)]) zz.1.1 zz.1.2.1 zz.1.2.2.1 zz.1.2.2.2.1 zz.1.2.2.2.2) 1 (listB 5 15) ?_ (fun hD1 => ?_)
 rintro ⟨⟨t109l,t109a,t109c,t109d,t109e⟩,ht109l⟩
 dsimp only [List.cons_append,List.nil_append]
 try dsimp only at ht109l
 have hfit_t109l : ∀ x ∈ t109l,conFit x.1 := conFit_pl ht109l (by assumption); have hlen_t109l := pl_len ht109l
 refine kTD [4] [56,1,4,5,6,7,8,9,10] 0 [(56,.v (.bool false))] ?_
 refine kZ ?_
 refine kN ?_
 refine kK ?_
 refine kQ ?_
 refine kED [1,4,5,6,7,8,9,10,11] [(11,.v (.int .i64 1))] ?_
 refine kQ ?_
 refine xl_wk ((wk_pick [3,4,5,0,1,2,6,7,8,9,10,11,12,13,14,15,16,17] [rowF w.heap.size 68 25 (.slice t5a t5l.length t5c) (t5l.map conR),hownF w.heap.size t5l,ownF w.heap.size (.slice t5d t.waiting.length t5e) 3 (t.waiting.map tupCells),rowF w.heap.size 68 25 (.slice t6a t6l.length t6c) (t6l.map conR),hownF w.heap.size t6l,ownF w.heap.size (.slice t6d ((takeW t).length) t6e) 3 ((takeW t).map tupCells),rowF w.heap.size 68 25 (.slice t4a t4l.length t4c) (t4l.map conR),hownF w.heap.size t4l,rowF w.heap.size 35 3 (.slice t4d ((takeW t).length) t4e) ((takeW t).map tupCells),rowF w.heap.size 68 25 (.slice t3a t3l.length t3c) (t3l.map conR),hownF w.heap.size t3l,ownF w.heap.size (.slice t3d t.waiting.length t3e) 3 (t.waiting.map tupCells),slF (.slice Atc t.conns.length Ctc) 25 (t.conns.map conR),hldF t.conns,slF (.slice Atw t.waiting.length Ctw) 3 (t.waiting.map tupCells),hownF w.heap.size t109l,ownF w.heap.size (.slice t109d t.waiting.length t109e) 3 (t.waiting.map tupCells),rowF w.heap.size 68 25 (.slice t109a t109l.length t109c) (t109l.map conR)] (by kernel_rfl) (by kernel_rfl)).trans (wk_turn (fs' := [allF (tabG w.heap.size 68 (.slice t5a t5l.length t5c) t5l (.slice t5d t.waiting.length t5e) t.waiting),rowF w.heap.size 68 25 (.slice t6a t6l.length t6c) (t6l.map conR),hownF w.heap.size t6l,ownF w.heap.size (.slice t6d ((takeW t).length) t6e) 3 ((takeW t).map tupCells),rowF w.heap.size 68 25 (.slice t4a t4l.length t4c) (t4l.map conR),hownF w.heap.size t4l,rowF w.heap.size 35 3 (.slice t4d ((takeW t).length) t4e) ((takeW t).map tupCells),rowF w.heap.size 68 25 (.slice t3a t3l.length t3c) (t3l.map conR),hownF w.heap.size t3l,ownF w.heap.size (.slice t3d t.waiting.length t3e) 3 (t.waiting.map tupCells),slF (.slice Atc t.conns.length Ctc) 25 (t.conns.map conR),hldF t.conns,slF (.slice Atw t.waiting.length Ctw) 3 (t.waiting.map tupCells),hownF w.heap.size t109l,ownF w.heap.size (.slice t109d t.waiting.length t109e) 3 (t.waiting.map tupCells),rowF w.heap.size 68 25 (.slice t109a t109l.length t109c) (t109l.map conR)]) (fun _ _ _ _ h => tabG_in h))) ?_
 have hmb_t5l := mcnt_bd (l := t5l) (fun x hx => (hfit_t5l x hx).2.2.1)
 refine xl_callW 2 [1,4,5,6,8,9,10,11,57,58] ⟨[(1,.p 0 0),(4,.p 1 0),(5,.p 2 0),(6,.v (.bool (!t.waiting.isEmpty))),(8,.p 4 0),(9,.p 5 0),(10,.v (.bool (!t.waiting.isEmpty))),(11,.v (.int .i64 1)),(57,.v (.agg (tabL { t with conns := t5l } (.slice t5a t5l.length t5c) (.slice t5d t.waiting.length t5e)).toArray)),(58,.v (.int .i64 1))],[⟨25,tabL t (.slice Atc t.conns.length Ctc) (.slice Atw t.waiting.length Ctw)⟩,⟨33,[.slice t4a t4l.length t4c,.slice t4d ((takeW t).length) t4e]⟩,⟨35,tupL (t.waiting.headD ⟨0,0,0⟩)⟩,⟨33,tabL { t with conns := t5l } (.slice t5a t5l.length t5c) (.slice t5d t.waiting.length t5e)⟩,⟨33,[.slice t6a t6l.length t6c,.slice t6d ((takeW t).length) t6e]⟩,⟨35,tupL (t.waiting.headD ⟨0,0,0⟩)⟩],[],[allF (tabG w.heap.size 68 (.slice t5a t5l.length t5c) t5l (.slice t5d t.waiting.length t5e) t.waiting),rowF w.heap.size 68 25 (.slice t6a t6l.length t6c) (t6l.map conR),hownF w.heap.size t6l,ownF w.heap.size (.slice t6d ((takeW t).length) t6e) 3 ((takeW t).map tupCells),rowF w.heap.size 68 25 (.slice t4a t4l.length t4c) (t4l.map conR),hownF w.heap.size t4l,rowF w.heap.size 35 3 (.slice t4d ((takeW t).length) t4e) ((takeW t).map tupCells),rowF w.heap.size 68 25 (.slice t3a t3l.length t3c) (t3l.map conR),hownF w.heap.size t3l,ownF w.heap.size (.slice t3d t.waiting.length t3e) 3 (t.waiting.map tupCells),slF (.slice Atc t.conns.length Ctc) 25 (t.conns.map conR),hldF t.conns,slF (.slice Atw t.waiting.length Ctw) 3 (t.waiting.map tupCells),hownF w.heap.size t109l,ownF w.heap.size (.slice t109d t.waiting.length t109e) 3 (t.waiting.map tupCells),rowF w.heap.size 68 25 (.slice t109a t109l.length t109c) (t109l.map conR)]⟩ 24 [.agg (tabL { t with conns := t5l } (.slice t5a t5l.length t5c) (.slice t5d t.waiting.length t5e)).toArray,.int .i64 1] (some 59) 0 (allF (tabG w.heap.size 68 (.slice t5a t5l.length t5c) t5l (.slice t5d t.waiting.length t5e) t.waiting)) (by kernel_rfl) rfl (by kernel_rfl) rfl (by kernel_rfl) rfl rfl (fun ww b h hb => tabG_lo h hb) (by kernel_rfl) (xcm_all (fun b h => tabG_blk h) fun ww hw hf => ymarkTable_c (.slice t5a t5l.length t5c) (.slice t5d t.waiting.length t5e) t5l t.waiting 1 ww w.heap.size hw (hf (allF (tabG w.heap.size 68 (.slice t5a t5l.length t5c) t5l (.slice t5d t.waiting.length t5e) t.waiting)) (by simp)) (by omega) (by omega) (by omega) (fun x hx => (hfit_t5l x hx).2.2.1) (by omega)) ?_
 intro _
 refine xl_wk ((wk_pick [0,1,2,3,4,5,6,7,8,9,10,11,12,13,14,15] [allF (tabG w.heap.size 68 (.slice t5a t5l.length t5c) (mkCs 1 t5l) (.slice t5d t.waiting.length t5e) (marks mkT 3 (1 + mcnt t5l) t.waiting.length)),rowF w.heap.size 68 25 (.slice t6a t6l.length t6c) (t6l.map conR),hownF w.heap.size t6l,ownF w.heap.size (.slice t6d ((takeW t).length) t6e) 3 ((takeW t).map tupCells),rowF w.heap.size 68 25 (.slice t4a t4l.length t4c) (t4l.map conR),hownF w.heap.size t4l,rowF w.heap.size 35 3 (.slice t4d ((takeW t).length) t4e) ((takeW t).map tupCells),rowF w.heap.size 68 25 (.slice t3a t3l.length t3c) (t3l.map conR),hownF w.heap.size t3l,ownF w.heap.size (.slice t3d t.waiting.length t3e) 3 (t.waiting.map tupCells),slF (.slice Atc t.conns.length Ctc) 25 (t.conns.map conR),hldF t.conns,slF (.slice Atw t.waiting.length Ctw) 3 (t.waiting.map tupCells),hownF w.heap.size t109l,ownF w.heap.size (.slice t109d t.waiting.length t109e) 3 (t.waiting.map tupCells),rowF w.heap.size 68 25 (.slice t109a t109l.length t109c) (t109l.map conR)] (by kernel_rfl) (by kernel_rfl)).trans (wk_turn (fs' := [rowF w.heap.size 68 25 (.slice t5a t5l.length t5c) ((mkCs 1 t5l).map conR),hownF w.heap.size (mkCs 1 t5l),ownF w.heap.size (.slice t5d t.waiting.length t5e) 3 ((marks mkT 3 (1 + mcnt t5l) t.waiting.length).map tupCells),rowF w.heap.size 68 25 (.slice t6a t6l.length t6c) (t6l.map conR),hownF w.heap.size t6l,ownF w.heap.size (.slice t6d ((takeW t).length) t6e) 3 ((takeW t).map tupCells),rowF w.heap.size 68 25 (.slice t4a t4l.length t4c) (t4l.map conR),hownF w.heap.size t4l,rowF w.heap.size 35 3 (.slice t4d ((takeW t).length) t4e) ((takeW t).map tupCells),rowF w.heap.size 68 25 (.slice t3a t3l.length t3c) (t3l.map conR),hownF w.heap.size t3l,ownF w.heap.size (.slice t3d t.waiting.length t3e) 3 (t.waiting.map tupCells),slF (.slice Atc t.conns.length Ctc) 25 (t.conns.map conR),hldF t.conns,slF (.slice Atw t.waiting.length Ctw) 3 (t.waiting.map tupCells),hownF w.heap.size t109l,ownF w.heap.size (.slice t109d t.waiting.length t109e) 3 (t.waiting.map tupCells),rowF w.heap.size 68 25 (.slice t109a t109l.length t109c) (t109l.map conR)]) (fun _ _ _ _ h => tabG_out h))) ?_
 refine kED [1,4,5,6,8,9,10,11] [(11,.v (.int .i64 (1 + mcnt t5l + 3 * (t.waiting.length : Int))))] ?_
 refine kS ?_
 refine kQ ?_
 refine kRD 3 [1,4,5,6,8,9,10,62] [(62,.v (.bool (decide ((1 + mcnt t5l + 3 * (t.waiting.length : Int)) < 0))))] ?_
 refine kP 62 (decide ((1 + mcnt t5l + 3 * (t.waiting.length : Int)) < 0)) (fun h259 => ?_) (fun h259 => ?_)
 have h259p := of_decide_eq_true h259
 exfalso; have := of_decide_eq_true h259; omega
 have h259p := of_decide_eq_false h259
 refine kCD 2 [1,4,5,6,8,9,10,62,63,64] [(62,.v (.bool false)),(63,.v (.agg #[.slice t6a t6l.length t6c,.slice t6d ((takeW t).length) t6e])),(64,.v (.agg #[.slice t4a t4l.length t4c,.slice t4d ((takeW t).length) t4e]))] 15 [.agg #[.slice t6a t6l.length t6c,.slice t6d ((takeW t).length) t6e],.agg #[.slice t4a t4l.length t4c,.slice t4d ((takeW t).length) t4e]] (some 65) rfl (xc_b fun ww hf => yeqTable_c t6l (takeW t) (.slice t6a t6l.length t6c) (.slice t6d ((takeW t).length) t6e) t4l (.slice t4a t4l.length t4c) (.slice t4d ((takeW t).length) t4e) ww (rowF_sl (hf _ m3)) (hownF_sl (hf _ m4)) (Own.sl (hf _ m5)) (rowF_sl (hf _ m6)) (hownF_sl (hf _ m7)) (rowF_sl (hf (rowF w.heap.size 35 3 (.slice t4d ((takeW t).length) t4e) ((takeW t).map tupCells)) (by simp))) (by first | assumption | (simp only [ht6l,ht4l]; done))) ?_
 intro _
 refine kCD 5 [1,4,5,6,8,10,68,69,70] [(68,.v (.bool false)),(69,.v (.agg (tupL (t.waiting.headD ⟨0,0,0⟩)).toArray)),(70,.v (.agg (tupL (t.waiting.headD ⟨0,0,0⟩)).toArray))] 23 [.agg (tupL (t.waiting.headD ⟨0,0,0⟩)).toArray,.agg (tupL (t.waiting.headD ⟨0,0,0⟩)).toArray] (some 71) rfl (xc_b fun ww hf => eqTuple_c ((t.waiting.headD ⟨0,0,0⟩).ip) ((t.waiting.headD ⟨0,0,0⟩).port) ((t.waiting.headD ⟨0,0,0⟩).my) ww) ?_
 intro _
 refine kED [1,4,5,6,8,78] [(78,.v (.bool (!((!t.waiting.isEmpty) == (!t.waiting.isEmpty)))))] ?_
 refine kC (!((!t.waiting.isEmpty) == (!t.waiting.isEmpty))) (fun h260 => ?_) (fun h260 => ?_)
 have h260n := not_t h260
 simp at h260n
 have h260n := not_f h260
 have h260np := eqT h260n
 refine kK ?_
 refine kQ ?_
 refine kED [1,4,5,6,8,12] [(12,.v (.int .i64 1))] ?_
 refine kQ ?_
 refine xl_wk ((wk_pick [3,4,5,0,1,2,6,7,8,9,10,11,12,13,14,15,16,17] [rowF w.heap.size 68 25 (.slice t6a t6l.length t6c) (t6l.map conR),hownF w.heap.size t6l,ownF w.heap.size (.slice t6d ((takeW t).length) t6e) 3 ((takeW t).map tupCells),rowF w.heap.size 68 25 (.slice t5a t5l.length t5c) ((mkCs 1 t5l).map conR),hownF w.heap.size (mkCs 1 t5l),ownF w.heap.size (.slice t5d t.waiting.length t5e) 3 ((marks mkT 3 (1 + mcnt t5l) t.waiting.length).map tupCells),rowF w.heap.size 68 25 (.slice t4a t4l.length t4c) (t4l.map conR),hownF w.heap.size t4l,rowF w.heap.size 35 3 (.slice t4d ((takeW t).length) t4e) ((takeW t).map tupCells),rowF w.heap.size 68 25 (.slice t3a t3l.length t3c) (t3l.map conR),hownF w.heap.size t3l,ownF w.heap.size (.slice t3d t.waiting.length t3e) 3 (t.waiting.map tupCells),slF (.slice Atc t.conns.length Ctc) 25 (t.conns.map conR),hldF t.conns,slF (.slice Atw t.waiting.length Ctw) 3 (t.waiting.map tupCells),hownF w.heap.size t109l,ownF w.heap.size (.slice t109d t.waiting.length t109e) 3 (t.waiting.map tupCells),rowF w.heap.size 68 25 (.slice t109a t109l.length t109c) (t109l.map conR)] (by kernel_rfl) (by kernel_rfl)).trans (wk_turn (fs' := [allF (tabG w.heap.size 68 (.slice t6a t6l.length t6c) t6l (.slice t6d ((takeW t).length) t6e) (takeW t)),rowF w.heap.size 68 25 (.slice t5a t5l.length t5c) ((mkCs 1 t5l).map conR),hownF w.heap.size (mkCs 1 t5l),ownF w.heap.size (.slice t5d t.waiting.length t5e) 3 ((marks mkT 3 (1 + mcnt t5l) t.waiting.length).map tupCells),rowF w.heap.size 68 25 (.slice t4a t4l.length t4c) (t4l.map conR),hownF w.heap.size t4l,rowF w.heap.size 35 3 (.slice t4d ((takeW t).length) t4e) ((takeW t).map tupCells),rowF w.heap.size 68 25 (.slice t3a t3l.length t3c) (t3l.map conR),hownF w.heap.size t3l,ownF w.heap.size (.slice t3d t.waiting.length t3e) 3 (t.waiting.map tupCells),slF (.slice Atc t.conns.length Ctc) 25 (t.conns.map conR),hldF t.conns,slF (.slice Atw t.waiting.length Ctw) 3 (t.waiting.map tupCells),hownF w.heap.size t109l,ownF w.heap.size (.slice t109d t.waiting.length t109e) 3 (t.waiting.map tupCells),rowF w.heap.size 68 25 (.slice t109a t109l.length t109c) (t109l.map conR)]) (fun _ _ _ _ h => tabG_in h))) ?_
 have hmb_t6l := mcnt_bd (l := t6l) (fun x hx => (hfit_t6l x hx).2.2.1)
 refine xl_callW 2 [1,4,5,6,8,12,79,80] ⟨[(1,.p 0 0),(4,.p 1 0),(5,.p 2 0),(6,.v (.bool (!t.waiting.isEmpty))),(8,.p 4 0),(12,.v (.int .i64 1)),(79,.v (.agg #[.slice t6a t6l.length t6c,.slice t6d ((takeW t).length) t6e])),(80,.v (.int .i64 1))],[⟨25,tabL t (.slice Atc t.conns.length Ctc) (.slice Atw t.waiting.length Ctw)⟩,⟨33,[.slice t4a t4l.length t4c,.slice t4d ((takeW t).length) t4e]⟩,⟨35,tupL (t.waiting.headD ⟨0,0,0⟩)⟩,⟨33,[.slice t5a t5l.length t5c,.slice t5d t.waiting.length t5e]⟩,⟨33,[.slice t6a t6l.length t6c,.slice t6d ((takeW t).length) t6e]⟩,⟨35,tupL (t.waiting.headD ⟨0,0,0⟩)⟩],[],[allF (tabG w.heap.size 68 (.slice t6a t6l.length t6c) t6l (.slice t6d ((takeW t).length) t6e) (takeW t)),rowF w.heap.size 68 25 (.slice t5a t5l.length t5c) ((mkCs 1 t5l).map conR),hownF w.heap.size (mkCs 1 t5l),ownF w.heap.size (.slice t5d t.waiting.length t5e) 3 ((marks mkT 3 (1 + mcnt t5l) t.waiting.length).map tupCells),rowF w.heap.size 68 25 (.slice t4a t4l.length t4c) (t4l.map conR),hownF w.heap.size t4l,rowF w.heap.size 35 3 (.slice t4d ((takeW t).length) t4e) ((takeW t).map tupCells),rowF w.heap.size 68 25 (.slice t3a t3l.length t3c) (t3l.map conR),hownF w.heap.size t3l,ownF w.heap.size (.slice t3d t.waiting.length t3e) 3 (t.waiting.map tupCells),slF (.slice Atc t.conns.length Ctc) 25 (t.conns.map conR),hldF t.conns,slF (.slice Atw t.waiting.length Ctw) 3 (t.waiting.map tupCells),hownF w.heap.size t109l,ownF w.heap.size (.slice t109d t.waiting.length t109e) 3 (t.waiting.map tupCells),rowF w.heap.size 68 25 (.slice t109a t109l.length t109c) (t109l.map conR)]⟩ 24 [.agg #[.slice t6a t6l.length t6c,.slice t6d ((takeW t).length) t6e],.int .i64 1] (some 81) 0 (allF (tabG w.heap.size 68 (.slice t6a t6l.length t6c) t6l (.slice t6d ((takeW t).length) t6e) (takeW t))) (by kernel_rfl) rfl (by kernel_rfl) rfl (by kernel_rfl) rfl rfl (fun ww b h hb => tabG_lo h hb) (by kernel_rfl) (xcm_all (fun b h => tabG_blk h) fun ww hw hf => ymarkTable_c (.slice t6a t6l.length t6c) (.slice t6d ((takeW t).length) t6e) t6l (takeW t) 1 ww w.heap.size hw (hf (allF (tabG w.heap.size 68 (.slice t6a t6l.length t6c) t6l (.slice t6d ((takeW t).length) t6e) (takeW t))) (by simp)) (by omega) (by omega) (by omega) (fun x hx => (hfit_t6l x hx).2.2.1) (by omega)) ?_
 intro _
 refine xl_wk ((wk_pick [0,1,2,3,4,5,6,7,8,9,10,11,12,13,14,15] [allF (tabG w.heap.size 68 (.slice t6a t6l.length t6c) (mkCs 1 t6l) (.slice t6d ((takeW t).length) t6e) (marks mkT 3 (1 + mcnt t6l) (takeW t).length)),rowF w.heap.size 68 25 (.slice t5a t5l.length t5c) ((mkCs 1 t5l).map conR),hownF w.heap.size (mkCs 1 t5l),ownF w.heap.size (.slice t5d t.waiting.length t5e) 3 ((marks mkT 3 (1 + mcnt t5l) t.waiting.length).map tupCells),rowF w.heap.size 68 25 (.slice t4a t4l.length t4c) (t4l.map conR),hownF w.heap.size t4l,rowF w.heap.size 35 3 (.slice t4d ((takeW t).length) t4e) ((takeW t).map tupCells),rowF w.heap.size 68 25 (.slice t3a t3l.length t3c) (t3l.map conR),hownF w.heap.size t3l,ownF w.heap.size (.slice t3d t.waiting.length t3e) 3 (t.waiting.map tupCells),slF (.slice Atc t.conns.length Ctc) 25 (t.conns.map conR),hldF t.conns,slF (.slice Atw t.waiting.length Ctw) 3 (t.waiting.map tupCells),hownF w.heap.size t109l,ownF w.heap.size (.slice t109d t.waiting.length t109e) 3 (t.waiting.map tupCells),rowF w.heap.size 68 25 (.slice t109a t109l.length t109c) (t109l.map conR)] (by kernel_rfl) (by kernel_rfl)).trans (wk_turn (fs' := [rowF w.heap.size 68 25 (.slice t6a t6l.length t6c) ((mkCs 1 t6l).map conR),hownF w.heap.size (mkCs 1 t6l),ownF w.heap.size (.slice t6d ((takeW t).length) t6e) 3 ((marks mkT 3 (1 + mcnt t6l) (takeW t).length).map tupCells),rowF w.heap.size 68 25 (.slice t5a t5l.length t5c) ((mkCs 1 t5l).map conR),hownF w.heap.size (mkCs 1 t5l),ownF w.heap.size (.slice t5d t.waiting.length t5e) 3 ((marks mkT 3 (1 + mcnt t5l) t.waiting.length).map tupCells),rowF w.heap.size 68 25 (.slice t4a t4l.length t4c) (t4l.map conR),hownF w.heap.size t4l,rowF w.heap.size 35 3 (.slice t4d ((takeW t).length) t4e) ((takeW t).map tupCells),rowF w.heap.size 68 25 (.slice t3a t3l.length t3c) (t3l.map conR),hownF w.heap.size t3l,ownF w.heap.size (.slice t3d t.waiting.length t3e) 3 (t.waiting.map tupCells),slF (.slice Atc t.conns.length Ctc) 25 (t.conns.map conR),hldF t.conns,slF (.slice Atw t.waiting.length Ctw) 3 (t.waiting.map tupCells),hownF w.heap.size t109l,ownF w.heap.size (.slice t109d t.waiting.length t109e) 3 (t.waiting.map tupCells),rowF w.heap.size 68 25 (.slice t109a t109l.length t109c) (t109l.map conR)]) (fun _ _ _ _ h => tabG_out h))) ?_
 refine kED [1,4,5,6,8,12] [(12,.v (.int .i64 (1 + mcnt t6l + 3 * ((takeW t).length : Int))))] ?_
 refine kQ ?_
 refine kED [1,4,5,6,8,12,13] [(13,.v (.int .i64 1))] ?_
 refine kQ ?_
 refine kCD 2 [1,4,5,6,8,12,13,82,83] [(82,.v (.agg #[.slice t6a t6l.length t6c,.slice t6d ((takeW t).length) t6e])),(83,.v (.int .i64 1))] 25 [.agg #[.slice t6a t6l.length t6c,.slice t6d ((takeW t).length) t6e],.int .i64 1] (some 84) rfl (xc_b fun ww hf => yheldTable_c t6l (takeW t).length (.slice t6a t6l.length t6c) (.slice t6d ((takeW t).length) t6e) 1 ww (rowF_sl (hf _ m0)) (hownF_sl (hf _ m1)) (Own.sl (hf _ m2)) (by omega) (by omega) (by omega) (fun x hx => (hfit_t6l x hx).2.2.1) (by omega)) ?_
 intro _
 refine kED [1,4,5,6,8,12,13] [(13,.v (.int .i64 (1 + mcnt t6l + 3 * ((takeW t).length : Int))))] ?_
 refine kS ?_
 refine kQ ?_
 refine kED [1,4,5,6,8,12,13,86] [(86,.v (.bool (decide ((1 + mcnt t6l + 3 * ((takeW t).length : Int)) < 0))))] ?_
 refine kC (decide ((1 + mcnt t6l + 3 * ((takeW t).length : Int)) < 0)) (fun h261 => ?_) (fun h261 => ?_)
 have h261p := of_decide_eq_true h261
 exfalso; have := of_decide_eq_true h261; omega
 have h261p := of_decide_eq_false h261
 refine kK ?_
 refine kS ?_
 refine kQ ?_
 refine kED [1,4,5,6,8,12,89] [(89,.v (.bool ((1 + mcnt t6l + 3 * ((takeW t).length : Int)) != (1 + mcnt t6l + 3 * ((takeW t).length : Int)))))] ?_
 refine kC ((1 + mcnt t6l + 3 * ((takeW t).length : Int)) != (1 + mcnt t6l + 3 * ((takeW t).length : Int))) (fun h262 => ?_) (fun h262 => ?_)
 simp at h262
 have h262p := neF h262
 refine kK ?_
 refine kQ ?_
 refine kCD 1 [4,5,6,8,12,91] [(91,.v (.agg (tabL t (.slice Atc t.conns.length Ctc) (.slice Atw t.waiting.length Ctw)).toArray))] 12 [.agg (tabL t (.slice Atc t.conns.length Ctc) (.slice Atw t.waiting.length Ctw)).toArray] (some 92) rfl (xc_r fun ww hw hf => ytoTable_c t (.slice Atc t.conns.length Ctc) (.slice Atw t.waiting.length Ctw) ww (hf (slF (.slice Atc t.conns.length Ctc) 25 (t.conns.map conR)) (by simp)) (hf (hldF t.conns) (by simp)) (hf (slF (.slice Atw t.waiting.length Ctw) 3 (t.waiting.map tupCells)) (by simp)) (by assumption) (by omega) (by omega) w.heap.size hw) ?_
 rintro ⟨⟨t263l,ht263l⟩,⟨t263a,t263c⟩,⟨t263d,t263e⟩⟩
 dsimp only
 have hfit_t263l : ∀ x ∈ t263l,conFit x.1 := conFit_pl ht263l (by assumption)
 have hlen_t263l := pl_len ht263l
 refine kCD 0 [4,5,6,8,12,92] [] 22 [.agg (tabL { t with conns := t263l } (.slice t263a t263l.length t263c) (.slice t263d t.waiting.length t263e)).toArray] (some 93) rfl (xc_r fun ww hw hf => yiTakeWaiting_c ({ t with conns := t263l }) (.slice t263a t263l.length t263c) (.slice t263d t.waiting.length t263e) ww (rowF_sl (hf _ m0)) (hownF_sl (hf _ m1)) (Own.sl (hf _ m2)) (by first | assumption | (dsimp only; assumption)) (by first | assumption | omega | (dsimp only; omega)) (by first | assumption | omega | (dsimp only; omega)) w.heap.size hw) ?_
 rintro ⟨⟨t264l,ht264l⟩,⟨t264a,t264c⟩,⟨t264d,t264e⟩⟩
 dsimp only
 replace ht264l : pl t264l = pl t.conns := ht264l.trans (ht263l)
 rw [show takeW ({ t with conns := t263l }) = takeW t from rfl]
 have hfit_t264l : ∀ x ∈ t264l,conFit x.1 := conFit_pl ht264l hfit_t_connsV
 have hlen_t264l := pl_len ht264l
 have hdl : (takeW t).length ≤ 1048576 := (by rw [← takeW_len]; omega)
 refine kEA [4,5,6,8,12,14,15,16] [(14,.p 6 0),(15,.p 7 0),(16,.v (.bool (!t.waiting.isEmpty)))] [⟨33,[.slice t264a t264l.length t264c,.slice t264d ((takeW t).length) t264e]⟩,⟨35,tupL (t.waiting.headD ⟨0,0,0⟩)⟩] ?_
 refine kS ?_
 refine kQ ?_
 refine kCD 2 [5,6,8,12,15,16,97,98] [(97,.v (.agg #[.slice t264a t264l.length t264c,.slice t264d ((takeW t).length) t264e])),(98,.v (.agg #[.slice t4a t4l.length t4c,.slice t4d ((takeW t).length) t4e]))] 15 [.agg #[.slice t264a t264l.length t264c,.slice t264d ((takeW t).length) t264e],.agg #[.slice t4a t4l.length t4c,.slice t4d ((takeW t).length) t4e]] (some 99) rfl (xc_b fun ww hf => yeqTable_c t264l (takeW t) (.slice t264a t264l.length t264c) (.slice t264d ((takeW t).length) t264e) t4l (.slice t4a t4l.length t4c) (.slice t4d ((takeW t).length) t4e) ww (rowF_sl (hf _ m0)) (hownF_sl (hf _ m1)) (Own.sl (hf _ m2)) (rowF_sl (hf (rowF w.heap.size 68 25 (.slice t4a t4l.length t4c) (t4l.map conR)) (by simp))) (hownF_sl (hf (hownF w.heap.size t4l) (by simp))) (rowF_sl (hf (rowF w.heap.size 35 3 (.slice t4d ((takeW t).length) t4e) ((takeW t).map tupCells)) (by simp))) (by first | assumption | (simp only [ht264l,ht4l]; done))) ?_
 intro _
 refine kCS 4 [6,8,12,16,101,102,103] [(6,.v (.bool (!t.waiting.isEmpty))),(8,.p 4 0),(12,.v (.int .i64 (1 + mcnt t6l + 3 * ((takeW t).length : Int)))),(16,.v (.bool (!t.waiting.isEmpty))),(101,.v (.bool false)),(102,.v (.agg (tupL (t.waiting.headD ⟨0,0,0⟩)).toArray)),(103,.v (.agg (tupL (t.waiting.headD ⟨0,0,0⟩)).toArray))] 23 [.agg (tupL (t.waiting.headD ⟨0,0,0⟩)).toArray,.agg (tupL (t.waiting.headD ⟨0,0,0⟩)).toArray] (some 104) rfl (xc_b fun ww hf => eqTuple_c ((t.waiting.headD ⟨0,0,0⟩).ip) ((t.waiting.headD ⟨0,0,0⟩).port) ((t.waiting.headD ⟨0,0,0⟩).my) ww) ?_
 intro _
 refine kED [8,12,111] [(111,.v (.bool (!((!t.waiting.isEmpty) == (!t.waiting.isEmpty)))))] ?_
 refine kC (!((!t.waiting.isEmpty) == (!t.waiting.isEmpty))) (fun h265 => ?_) (fun h265 => ?_)
 have h265n := not_t h265
 simp at h265n
 have h265n := not_f h265
 have h265np := eqT h265n
 refine kK ?_
 refine kQ ?_
 refine kED [8,12,13] [(13,.v (.int .i64 1))] ?_
 refine kQ ?_
 refine kCD 2 [12,13,112,113] [(112,.v (.agg #[.slice t6a t6l.length t6c,.slice t6d ((takeW t).length) t6e])),(113,.v (.int .i64 1))] 25 [.agg #[.slice t6a t6l.length t6c,.slice t6d ((takeW t).length) t6e],.int .i64 1] (some 114) rfl (xc_b fun ww hf => yheldTable_c t6l (takeW t).length (.slice t6a t6l.length t6c) (.slice t6d ((takeW t).length) t6e) 1 ww (rowF_sl (hf _ m6)) (hownF_sl (hf _ m7)) (Own.sl (hf (ownF w.heap.size (.slice t6d ((takeW t).length) t6e) 3 ((marks mkT 3 (1 + mcnt t6l) (takeW t).length).map tupCells)) (by simp))) (by omega) (by omega) (by omega) (fun x hx => (hfit_t6l x hx).2.2.1) (by omega)) ?_
 intro _
 refine kED [12,13] [(13,.v (.int .i64 (1 + mcnt t6l + 3 * ((takeW t).length : Int))))] ?_
 refine kS ?_
 refine kQ ?_
 refine kED [12,13,116] [(116,.v (.bool (decide ((1 + mcnt t6l + 3 * ((takeW t).length : Int)) < 0))))] ?_
 refine kC (decide ((1 + mcnt t6l + 3 * ((takeW t).length : Int)) < 0)) (fun h266 => ?_) (fun h266 => ?_)
 have h266p := of_decide_eq_true h266
 exfalso; have := of_decide_eq_true h266; omega
 have h266p := of_decide_eq_false h266
 refine kK ?_
 refine kS ?_
 refine kQ ?_
 refine kES [119] [(119,.v (.bool ((1 + mcnt t6l + 3 * ((takeW t).length : Int)) != (1 + mcnt t6l + 3 * ((takeW t).length : Int)))))] ?_
 refine kC ((1 + mcnt t6l + 3 * ((takeW t).length : Int)) != (1 + mcnt t6l + 3 * ((takeW t).length : Int))) (fun h267 => ?_) (fun h267 => ?_)
 simp at h267
 have h267p := neF h267
 refine kK ?_
 refine kQ ?_
 refine kES [2] [(2,.v (.bool true))] ?_
 refine kR ?_
 exact ⟨[.bool true],by kernel_rfl,fun w' hb hf => ⟨rfl,hb⟩⟩
 refine xe_cutX (α := {zz : List CV × Option Addr × Nat × Option Addr × Nat // (fun (t109l : List CV) (t109a : Option Addr) (t109c : Nat) (t109d : Option Addr) (t109e : Nat) => pl t109l = pl t.conns) zz.1 zz.2.1 zz.2.2.1 zz.2.2.2.1 zz.2.2.2.2}) (fun zz => (fun (t109l : List CV) (t109a : Option Addr) (t109c : Nat) (t109d : Option Addr) (t109e : Nat) => [(52,.v (.agg (tabL { t with conns := t5l } (.slice t5a t5l.length t5c) (.slice t5d t.waiting.length t5e)).toArray)),(54,.v (.agg (tabL { t with conns := t109l } (.slice t109a t109l.length t109c) (.slice t109d t.waiting.length t109e)).toArray))]) zz.1.1 zz.1.2.1 zz.1.2.2.1 zz.1.2.2.2.1 zz.1.2.2.2.2) [1,4,5,6,7,8,9,10,52,54] (fun _ => []) (fun zz => (fun (t109l : List CV) (t109a : Option Addr) (t109c : Nat) (t109d : Option Addr) (t109e : Nat) => [hownF w.heap.size t109l,ownF w.heap.size (.slice t109d t.waiting.length t109e) 3 (t.waiting.map tupCells),rowF w.heap.size 68 25 (.slice t109a t109l.length t109c) (t109l.map conR)]) zz.1.1 zz.1.2.1 zz.1.2.2.1 zz.1.2.2.2.1 zz.1.2.2.2.2) 2 (listB 5 7) ?_ (fun hD0 => ?_)
 rintro ⟨⟨t109l,t109a,t109c,t109d,t109e⟩,ht109l⟩
 dsimp only [List.cons_append,List.nil_append]
 try dsimp only at ht109l
 have hfit_t109l : ∀ x ∈ t109l,conFit x.1 := conFit_pl ht109l (by assumption); have hlen_t109l := pl_len ht109l
 refine kA [3] ?_
 refine kSC 3 15 [.agg (tabL { t with conns := t5l } (.slice t5a t5l.length t5c) (.slice t5d t.waiting.length t5e)).toArray,.agg (tabL { t with conns := t109l } (.slice t109a t109l.length t109c) (.slice t109d t.waiting.length t109e)).toArray] (some 55) rfl (xc_b fun ww hf => yeqTable_c t5l t.waiting (.slice t5a t5l.length t5c) (.slice t5d t.waiting.length t5e) t109l (.slice t109a t109l.length t109c) (.slice t109d t.waiting.length t109e) ww (rowF_sl (hf _ m3)) (hownF_sl (hf _ m4)) (Own.sl (hf _ m5)) (rowF_sl (hf (rowF w.heap.size 68 25 (.slice t109a t109l.length t109c) (t109l.map conR)) (by simp))) (hownF_sl (hf (hownF w.heap.size t109l) (by simp))) (Own.sl (hf (ownF w.heap.size (.slice t109d t.waiting.length t109e) 3 (t.waiting.map tupCells)) (by simp))) (by first | assumption | (simp only [ht5l,ht109l]; done))) ?_
 intro _
 exact xe_wkL (kF 6 0 [1,4,5,6,7,8,9,10,55]) (by kernel_rfl) (hD1 ⟨(t109l,t109a,t109c,t109d,t109e),ht109l⟩)
 refine kTD [0,1] [53,52,1,4,5,6,7,8,9,10] 3 [(53,.v (.agg (tabL t (.slice Atc t.conns.length Ctc) (.slice Atw t.waiting.length Ctw)).toArray)),(52,.v (.agg (tabL { t with conns := t5l } (.slice t5a t5l.length t5c) (.slice t5d t.waiting.length t5e)).toArray))] ?_
 refine kA [2] ?_
 refine kSC 2 12 [.agg (tabL t (.slice Atc t.conns.length Ctc) (.slice Atw t.waiting.length Ctw)).toArray] (some 54) rfl (xc_r fun ww hw hf => ytoTable_c t (.slice Atc t.conns.length Ctc) (.slice Atw t.waiting.length Ctw) ww (hf (slF (.slice Atc t.conns.length Ctc) 25 (t.conns.map conR)) (by simp)) (hf (hldF t.conns) (by simp)) (hf (slF (.slice Atw t.waiting.length Ctw) 3 (t.waiting.map tupCells)) (by simp)) (by assumption) (by omega) (by omega) w.heap.size hw) ?_
 rintro ⟨⟨t109l,ht109l⟩,⟨t109a,t109c⟩,⟨t109d,t109e⟩⟩
 dsimp only
 have hfit_t109l : ∀ x ∈ t109l,conFit x.1 := conFit_pl ht109l (by assumption)
 have hlen_t109l := pl_len ht109l
 exact xe_wkL (kPk [3,4,5,6,7,8,9,10,11,12,13,14,15,16,17,1,2,0] <| kF 6 0 [1,4,5,6,7,8,9,10,52,54]) (by kernel_rfl) (hD0 ⟨(t109l,t109a,t109c,t109d,t109e),ht109l⟩)

set_option maxRecDepth 100000 in
theorem fnExactTakeWaiting_lifted (os : Os) (started : os.Started) (H : Type) (enc : TypeId × Value → H) :
    ReturnsInHanded {} Try.checked os 6 .any (Rows.fnExactTakeWaitingSpec.pre6 enc Try.prog Try.f6 Rows.fnExactTakeWaitingRow.domain false) (Rows.fnExactTakeWaitingSpec.post enc Try.prog Try.f6 false true false false) := by
  refine returnsInHanded_of_change (C := Try.checked) Try.ownK started (by kernel_rfl) Try.func6
    (ChangeSpec.witness6 (enc := enc) (C := Try.checked) false ⟨#[], #[.agg #[.slice none 0 0, .slice none 0 0]], []⟩ 8 (by kernel_rfl) (by kernel_rfl) (by kernel_rfl) (by kernel_rfl)) ?_
  intro W base args ds gs before hval0 hW hcnd _
  have hval : ∀ (j : Nat) t v, Try.f6.params[j]? = some t → args[j]? = some v → Value.okWide Try.prog W .any base t v := hval0
  have hW' := hW
  obtain ⟨p, q, hA0, hV, rfl, hfz, hnd⟩ := hW
  have hA : DataW.TrodAll enc Try.prog W 0 (fun _ => true) true Try.f6.params.toList args.toList ds p := hA0
  rw [Try.params6] at hA hval
  obtain ⟨v0, vs0, d0, ds0, p0, q0, hargs, rfl, rfl, h0, r0⟩ := trodAll_cons hA
  obtain ⟨rfl, rfl, rfl⟩ := trodAll_nil r0
  obtain rfl : args = #[v0] := by cases args; simp_all
  obtain ⟨rfl, rfl⟩ := trodVars_none hV
  clear hA0 hval0
  have g0 := h0
  obtain ⟨cs0, rfl, -⟩ := okWide_struct Try.underlying25 (hval 0 _ v0 rfl rfl)
  obtain ⟨fuel0, f0⟩ := g0
  obtain ⟨t_conns_v, t_waiting_v, e0, F_t_conns, F_t_waiting⟩ := open_TAB f0
  obtain rfl : cs0 = #[t_conns_v, t_waiting_v] := by cases cs0; simpa [Value.cells] using e0
  clear e0
  obtain ⟨_, _, T_t_conns⟩ := F_t_conns
  obtain ⟨t_conns, L_t_conns, H_t_conns, M_t_conns⟩ := openSc_CON T_t_conns
  obtain ⟨_, _, T_t_waiting⟩ := F_t_waiting
  obtain ⟨t_waiting, L_t_waiting⟩ := openSc_TUP T_t_waiting
  refine (fnExactTakeWaiting_walk (⟨t_conns, t_waiting⟩ : Tab) t_conns_v t_waiting_v W L_t_conns H_t_conns M_t_conns L_t_waiting).mono fun e W' ⟨he, hb⟩ => ?_
  subst he
  have hlt : ∀ x ∈ (p0 ++ ([])) ++ [], x.block < W.heap.size := fun x hx => hW'.lt x hx
  refine ⟨_, rfl, post_of_below (pa := (p0 ++ ([]))) (pv := []) hW' (fun _ _ _ => trodAll_cons_mk (shut_bool Try.underlying4 _) trodAll_mk0) (fun sp hsp => trodAll_cons_mk (WideElems.Trod_stays Try.laidOut (by kernel_rfl) (of_decide_eq_true (by kernel_rfl)) h0 (fun x hx => hb.same (hlt x (List.mem_append_left _ (List.mem_append_left _ hx)))) (fun x hx => hsp x (List.mem_append_left _ (List.mem_append_left _ hx)))) (trodAll_mk0)) (fun _ _ => rfl) rfl hb (ok_one (by kernel_rfl) rfl (okWide_bool_mk Try.underlying4 _))⟩

theorem fnExactTakeWaiting_over : Rows.fnExactTakeWaitingRow.holds Try.pinned (OpenSpec.ofChange Rows.fnExactTakeWaitingSpec) :=
  OpenClaim.holds_of_wide 6 Try.f6 rfl rfl rfl rfl rfl rfl rfl ⟨rfl, rfl, rfl, rfl, rfl⟩ rfl rfl rfl rfl rfl (by kernel_rfl) Try.func6 (by kernel_rfl)
    (of_decide_eq_true (by kernel_rfl)) (by unfold Func.isWrapper; first | (rw [if_pos (by decide +kernel)]; kernel_rfl) | (rw [if_neg (by decide +kernel)]; exact ⟨rfl, rfl⟩))
    (fun os started H enc _ => fnExactTakeWaiting_lifted os started H enc)

theorem fnExactTakeWaiting_holds : Rows.FnExactTakeWaitingSaid := fnExactTakeWaiting_over
#print axioms fnExactTakeWaiting_holds
end Go.Proofs.Ytnhpmgcllclhfaa
