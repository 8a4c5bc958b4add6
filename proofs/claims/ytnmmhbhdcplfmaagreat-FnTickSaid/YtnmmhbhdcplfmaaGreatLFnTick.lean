/- The law FnTick holds: for every argument the program's function answers true and leaves its arguments as they were. Conditions: none beyond the given row's. -/
import Derived.Test.YtnmmhbhdcplfmaaGreatZ4
import Derived.Test.YtnmmhbhdcplfmaaGreatG3
import Derived.Test.YtnmmhbhdcplfmaaGreatG2
namespace Go.Proofs.YtnmmhbhdcplfmaaGreat
open Go.RowKit Go.ChangeShapes Go.WideShapes Go.ChangeAt
set_option linter.unusedVariables false
set_option linter.unusedSimpArgs false

set_option maxRecDepth 100000 in
set_option maxHeartbeats 2000000 in
theorem fnTick_walk (code : List Int) (codeV : Value) (w : World) (hl_codeV : Sl w codeV 1 (code.map byteRow)) : Calls Tryz.prog 8 #[codeV] w fun e w' => e = .returned (.bool true) ∧ Below w.heap.size w w' := by
 obtain ⟨Ac,Cc,hvc⟩ := hl_codeV.form
 rw [List.length_map] at hvc; subst hvc
 have hnc := hl_codeV.len; rw [List.length_map] at hnc
 have hqc := Sl.capLe hl_codeV
 refine x_calls (args := [.slice Ac code.length Cc]) (fn := Tryz.f8) [slF (.slice Ac code.length Cc) 1 (code.map byteRow)] Tryz.func8 rfl Tryz.ntmps8 rfl (by simp only [List.mem_cons,List.not_mem_nil,or_false,forall_eq_or_imp,forall_eq]; exact ⟨rfl,hl_codeV⟩) ?_
 refine kQ ?_
 refine kEF [0] ⟨[(0,.v (.slice Ac code.length Cc))],[],[],[slF (.slice Ac code.length Cc) 1 (code.map byteRow)]⟩ ?_
 refine kS ?_
 refine kQ ?_
 refine kCD 1 [0,9] [(9,.v (.slice Ac code.length Cc))] 10 [.slice Ac code.length Cc] (some 10) rfl (xc_b fun ww hf => big_c code Ac Cc ww (hf _ m0)) ?_
 intro _
 refine kED [0,10] [] ?_
 refine kC (decide (((code.length : Nat) : Int) > 1048576)) (fun h1 => ?_) (fun h1 => ?_)
 have h1p := of_decide_eq_true h1
 refine kQ ?_
 refine kES [2] [(2,.v (.bool true))] ?_
 refine kR ?_
 exact ⟨[.bool true],by kernel_rfl,fun w' hb hf => ⟨rfl,hb⟩⟩
 have h1p := of_decide_eq_false h1
 have hbig : code.length ≤ 1048576 := by simp at h1; omega
 refine kK ?_
 refine kQ ?_
 refine kCS 1 [11] [(11,.v (.slice Ac code.length Cc))] 41 [.slice Ac code.length Cc] (some 12) rfl (xc_newF (α := {y : (Con) × (Option Addr × Nat) // RB 4 y.1.r}) (F := fun y => .agg #[.int .i64 y.1.1.t.ip,.int .i64 y.1.1.t.port,.int .i64 y.1.1.t.my,.int .i64 y.1.1.state,.int .i64 y.1.1.s.una,.string y.1.1.s.data,.int .i64 y.1.1.s.sent,.bool y.1.1.s.fin,.bool y.1.1.s.finSent,.bool y.1.1.s.done,.int .i64 y.1.1.r.next,.string y.1.1.r.data,.slice y.1.2.1 y.1.1.r.held.length y.1.2.2,.int .i64 y.1.1.r.fin,.bool y.1.1.r.done,.int .i64 y.1.1.window,.int .i64 y.1.1.most,.int .i64 y.1.1.o.mss,.int .i64 y.1.1.o.scale,.bool y.1.1.o.sack,.bool y.1.1.o.stamp,.int .i64 y.1.1.o.val,.int .i64 y.1.1.o.echo,.int .i64 y.1.1.timer,.int .i64 y.1.1.tries]) (v := fun y => .slice y.1.2.1 y.1.1.r.held.length y.1.2.2) (rs := fun y => y.1.1.r.held.map pceCells) fun ww hw hf => drawTickConn_c code Ac Cc ww (hf _ m0) (by omega)) ?_
 rintro ⟨⟨d2a,d2A,d2C⟩,hd2⟩
 dsimp only at hd2
 have hkn := hd2.kn; have hm := hd2.hm; have hsz := hd2.sz
 have hrd1 := hd2.1; have hrd2 := hd2.2.2
 refine kEA [3] [(3,.p 0 0)] [⟨34,conL d2a (.slice d2A d2a.r.held.length d2C)⟩] ?_
 refine kQ ?_
 refine kCD 1 [3,14] [(14,.v (.agg (conL d2a (.slice d2A d2a.r.held.length d2C)).toArray))] 42 [.agg (conL d2a (.slice d2A d2a.r.held.length d2C)).toArray] (some 15) rfl (xc_r fun ww hw hf => yiTickConn_c d2a (.slice d2A d2a.r.held.length d2C) ww (hf _ m0).1 (by assumption) (by assumption) (by omega) w.heap.size hw) ?_
 rintro ⟨⟨v3a,v3c⟩,⟨v4a,v4c⟩⟩
 have hbd5 : (tickConn d2a).1.r.held.length ≤ 1048576 ∧ (tickConn d2a).2.length ≤ 49 := tickConn_bd _  (by omega)
 have hbd5a := hbd5.1; have hbd5b := hbd5.2
 have hrb6 := RB.tick (hd2); have hrb6a := hrb6.kn; have hrb6b := hrb6.hm; have hrb6c := hrb6.sz
 refine kEA [3,4,5] [(4,.p 1 0),(5,.v (.slice v4a ((tickConn d2a).2.length) v4c))] [⟨34,conL (tickConn d2a).1 (.slice v3a ((tickConn d2a).1.r.held.length) v3c)⟩] ?_
 refine kQ ?_
 refine kCD 1 [3,4,5,19] [(19,.v (.agg (conL d2a (.slice d2A d2a.r.held.length d2C)).toArray))] 43 [.agg (conL d2a (.slice d2A d2a.r.held.length d2C)).toArray] (some 20) rfl (xc_r fun ww hw hf => ysTickConn_c d2a (.slice d2A d2a.r.held.length d2C) ww (hf _ m2).1 (by assumption) (by assumption) (by omega) w.heap.size hw) ?_
 rintro ⟨⟨v7a,v7c⟩,⟨v8a,v8c⟩⟩
 refine kEA [3,4,5,6,7] [(6,.p 2 0),(7,.v (.slice v8a ((tickConn d2a).2.length) v8c))] [⟨34,conL (tickConn d2a).1 (.slice v7a ((tickConn d2a).1.r.held.length) v7c)⟩] ?_
 refine kS ?_
 refine kS ?_
 refine xe_region [] (by kernel_rfl) (fun ρ σ => ?_)
 refine kTS [0,1] [24,23,3,4,5,7] 15 [(24,.v (.agg (conL (tickConn d2a).1 (.slice v7a ((tickConn d2a).1.r.held.length) v7c)).toArray)),(23,.v (.agg (conL (tickConn d2a).1 (.slice v3a ((tickConn d2a).1.r.held.length) v3c)).toArray)),(3,.p 0 0),(4,.p 1 0),(5,.v (.slice v4a ((tickConn d2a).2.length) v4c)),(7,.v (.slice v8a ((tickConn d2a).2.length) v8c))] ?_
 refine kA [2] ?_
 refine kSC 2 21 [.agg (conL (tickConn d2a).1 (.slice v3a ((tickConn d2a).1.r.held.length) v3c)).toArray,.agg (conL (tickConn d2a).1 (.slice v7a ((tickConn d2a).1.r.held.length) v7c)).toArray] (some 25) rfl (xc_b fun ww hf => ysSameConn_c ((tickConn d2a).1) (.slice v3a ((tickConn d2a).1.r.held.length) v3c) ((tickConn d2a).1) (.slice v7a ((tickConn d2a).1.r.held.length) v7c) ww (Own.sl (hf _ m2)) (Own.sl (hf _ m0)) ) ?_
 intro _
 refine kTS [3,4] [27,3,4,5,7] 12 [(27,.v (.bool (!(sameConn ((tickConn d2a).1) ((tickConn d2a).1))))),(3,.p 0 0),(4,.p 1 0),(5,.v (.slice v4a ((tickConn d2a).2.length) v4c)),(7,.v (.slice v8a ((tickConn d2a).2.length) v8c))] ?_
 refine kY 27 (!(sameConn ((tickConn d2a).1) ((tickConn d2a).1))) (fun h9 => ?_) (fun h9 => ?_)
 have h9n := not_t h9
 exfalso; rw [sameConn_self] at h9n; cases h9n
 have h9n := not_f h9
 refine kTS [5,6] [29,28,27,3,4] 10 [(29,.v (.slice v8a ((tickConn d2a).2.length) v8c)),(28,.v (.slice v4a ((tickConn d2a).2.length) v4c)),(27,.v (.bool false)),(3,.p 0 0),(4,.p 1 0)] ?_
 refine kA [7] ?_
 refine kSC 7 22 [.slice v4a ((tickConn d2a).2.length) v4c,.slice v8a ((tickConn d2a).2.length) v8c] (some 30) rfl (xc_b fun ww hf => ysameSegments_c ((tickConn d2a).2) (.slice v4a ((tickConn d2a).2.length) v4c) ((tickConn d2a).2) (.slice v8a ((tickConn d2a).2.length) v8c) ww (Own.sl (hf _ m3)) (Own.sl (hf _ m1)) ) ?_
 intro _
 refine kTS [8,9,10] [33,3,4] 6 [(33,.v (.bool (!(sameL segEq (tickConn d2a).2 (tickConn d2a).2)))),(3,.p 0 0),(4,.p 1 0)] ?_
 refine kY 33 (!(sameL segEq (tickConn d2a).2 (tickConn d2a).2)) (fun h10 => ?_) (fun h10 => ?_)
 have h10n := not_t h10
 exfalso; rw [sameSeg_self] at h10n; cases h10n
 have h10n := not_f h10
 refine kTS [11,13] [36,34,33,3,4] 4 [(36,.v (.agg (conL d2a (.slice d2A d2a.r.held.length d2C)).toArray)),(34,.v (.agg (conL d2a (.slice d2A d2a.r.held.length d2C)).toArray)),(33,.v (.bool false)),(3,.p 0 0),(4,.p 1 0)] ?_
 refine kA [12] ?_
 refine kSC 12 44 [.agg (conL d2a (.slice d2A d2a.r.held.length d2C)).toArray] (some 35) rfl (xc_b fun ww hf => yiWaits_c d2a (.slice d2A d2a.r.held.length d2C) ww (hf _ m4).1 (by assumption) (by omega)) ?_
 intro _
 refine kA [14] ?_
 refine kSC 14 45 [.agg (conL d2a (.slice d2A d2a.r.held.length d2C)).toArray] (some 37) rfl (xc_b fun ww hf => ysWaits_c d2a (.slice d2A d2a.r.held.length d2C) ww (hf _ m4).1 (by assumption) (by omega)) ?_
 intro _
 refine kTS [15,16] [39,3,4] 0 [(39,.v (.bool (!((waits d2a) == (waits d2a))))),(3,.p 0 0),(4,.p 1 0)] ?_
 refine kZ ?_
 refine kC (!((waits d2a) == (waits d2a))) (fun h11 => ?_) (fun h11 => ?_)
 have h11n := not_t h11
 simp at h11n
 have h11n := not_f h11
 have h11np := eqT h11n
 refine kK ?_
 refine kS ?_
 refine kQ ?_
 refine kCD 1 [3,4,40] [(40,.v (.agg (conL d2a (.slice d2A d2a.r.held.length d2C)).toArray))] 23 [.agg (conL d2a (.slice d2A d2a.r.held.length d2C)).toArray] (some 41) rfl (xc_b fun ww hf => ysConnOk_c d2a (.slice d2A d2a.r.held.length d2C) ww (hf _ m4).1 (by assumption) (by omega)) ?_
 intro _
 refine kED [3,4,42] [(42,.v (.bool (!(conOk d2a))))] ?_
 refine kC (!(conOk d2a)) (fun h12 => ?_) (fun h12 => ?_)
 have h12n := not_t h12
 have hno := h12n
 refine kQ ?_
 refine kCS 2 [43,44] [(43,.v (.agg (conL (tickConn d2a).1 (.slice v3a ((tickConn d2a).1.r.held.length) v3c)).toArray)),(44,.v (.agg (conL d2a (.slice d2A d2a.r.held.length d2C)).toArray))] 21 [.agg (conL (tickConn d2a).1 (.slice v3a ((tickConn d2a).1.r.held.length) v3c)).toArray,.agg (conL d2a (.slice d2A d2a.r.held.length d2C)).toArray] (some 45) rfl (xc_b fun ww hf => ysSameConn_c ((tickConn d2a).1) (.slice v3a ((tickConn d2a).1.r.held.length) v3c) d2a (.slice d2A d2a.r.held.length d2C) ww (Own.sl (hf _ m2)) (hf _ m4).1 ) ?_
 intro _
 refine kES [2] [(2,.v (.bool (sameConn ((tickConn d2a).1) d2a)))] ?_
 refine kR ?_
 exact ⟨[.bool (sameConn ((tickConn d2a).1) d2a)],by kernel_rfl,fun w' hb hf => ⟨ret_bool (show (sameConn ((tickConn d2a).1) d2a : Bool) = true from by first | (rw [tick_bad hno]; exact sameConn_self _) | (rw [hse hwt]; rfl)),hb⟩⟩
 have h12n := not_f h12
 have h12nc : conOk d2a = true := (by simpa using h12n)
 have h12nq := conOk_bd h12nc; obtain ⟨h12nq0,h12nq1,h12nq2,h12nq3,h12nq4,h12nq5,h12nq6,h12nq7,h12nq8,h12nq9⟩ := h12nq
 have hok := h12n
 refine kK ?_
 refine kS ?_
 refine kQ ?_
 refine kCD 1 [3,4,46] [(46,.v (.agg (conL (tickConn d2a).1 (.slice v3a ((tickConn d2a).1.r.held.length) v3c)).toArray))] 24 [.agg (conL (tickConn d2a).1 (.slice v3a ((tickConn d2a).1.r.held.length) v3c)).toArray] (some 47) rfl (xc_b fun ww hf => yiConnOk_c ((tickConn d2a).1) (.slice v3a ((tickConn d2a).1.r.held.length) v3c) ww (Own.sl (hf _ m2)) (by assumption) (by omega)) ?_
 intro _
 refine kRD 2 [3,4,49] [(49,.v (.bool (!(conOk ((tickConn d2a).1)))))] ?_
 refine kP 49 (!(conOk ((tickConn d2a).1))) (fun h13 => ?_) (fun h13 => ?_)
 have h13n := not_t h13
 exfalso; rw [tick_ok hok] at h13n; cases h13n
 have h13n := not_f h13
 refine kCD 1 [3,4,49,50] [(49,.v (.bool false)),(50,.v (.agg (conL d2a (.slice d2A d2a.r.held.length d2C)).toArray))] 45 [.agg (conL d2a (.slice d2A d2a.r.held.length d2C)).toArray] (some 51) rfl (xc_b fun ww hf => ysWaits_c d2a (.slice d2A d2a.r.held.length d2C) ww (hf _ m4).1 (by assumption) (by omega)) ?_
 intro _
 refine kRD 2 [3,4,49,53] [(53,.v (.bool (!(waits d2a))))] ?_
 refine kP 53 (!(waits d2a)) (fun h14 => ?_) (fun h14 => ?_)
 have h14n := not_t h14
 have hnw := h14n
 refine kED [3,4,60] [(60,.v (.bool (((tickConn d2a).1.state) != d2a.state)))] ?_
 refine kC (((tickConn d2a).1.state) != d2a.state) (fun h15 => ?_) (fun h15 => ?_)
 have h15p := neT h15
 exfalso; rw [tick_no hnw] at h15; simp at h15
 have h15p := neF h15
 refine kK ?_
 refine kS ?_
 refine kQ ?_
 refine kED [3,4,8] [(8,.v (.int .i64 0))] ?_
 refine xw_block ?_
 refine xw_loopW (α := {x : Nat × Con × Option Addr × Nat // (fun (i : Nat) (x : Con) (A1 : Option Addr) (c1 : Nat) => (i : Int) ≤ 20 ∧ spent d2a x i ∧ RB 4 x.r) x.1 x.2.1 x.2.2.1 x.2.2.2}) (fun x => (fun (i : Nat) (x : Con) (A1 : Option Addr) (c1 : Nat) => (⟨[(3,.p 0 0),(4,.p 1 0),(8,.v (.int .i64 (i : Int)))],[⟨34,conL d2a (.slice d2A d2a.r.held.length d2C)⟩,⟨34,conL x (.slice A1 x.r.held.length c1)⟩,⟨34,conL (tickConn d2a).1 (.slice v7a ((tickConn d2a).1.r.held.length) v7c)⟩],[],[ownF w.heap.size (.slice A1 x.r.held.length c1) 2 (x.r.held.map pceCells),ownF w.heap.size (.slice v7a ((tickConn d2a).1.r.held.length) v7c) 2 ((tickConn d2a).1.r.held.map pceCells),ownF w.heap.size (.slice v8a ((tickConn d2a).2.length) v8c) 13 ((tickConn d2a).2.map segCells),ownF w.heap.size (.slice v4a ((tickConn d2a).2.length) v4c) 13 ((tickConn d2a).2.map segCells),newF w.heap.size (.slice d2A d2a.r.held.length d2C) 2 (d2a.r.held.map pceCells),slF (.slice Ac code.length Cc) 1 (code.map byteRow)]⟩ : St)) x.1.1 x.1.2.1 x.1.2.2.1 x.1.2.2.2) (fun x => (fun (i : Nat) (x : Con) (A1 : Option Addr) (c1 : Nat) => 20 - i) x.1.1 x.1.2.1 x.1.2.2.1 x.1.2.2.2) ⟨(0,(tickConn d2a).1,v3a,v3c),⟨(by omega),spent_start _,RB.tick (hd2)⟩⟩ ((wk_pick [2,0,1,3,4,5] [ownF w.heap.size (.slice v3a ((tickConn d2a).1.r.held.length) v3c) 2 ((tickConn d2a).1.r.held.map pceCells),ownF w.heap.size (.slice v7a ((tickConn d2a).1.r.held.length) v7c) 2 ((tickConn d2a).1.r.held.map pceCells),ownF w.heap.size (.slice v8a ((tickConn d2a).2.length) v8c) 13 ((tickConn d2a).2.map segCells),ownF w.heap.size (.slice v4a ((tickConn d2a).2.length) v4c) 13 ((tickConn d2a).2.map segCells),newF w.heap.size (.slice d2A d2a.r.held.length d2C) 2 (d2a.r.held.map pceCells),slF (.slice Ac code.length Cc) 1 (code.map byteRow)] (by kernel_rfl) (by kernel_rfl)).trans <| kF 3 0 [3,4,8]) ?_
 rintro ⟨⟨i,x,A1,c1⟩,hi,hsp,hrx⟩
 try dsimp only
 try dsimp only at hi hsp hrx
 refine kS ?_
 refine kQ ?_
 refine kED [3,4,8,62] [(62,.v (.bool (decide ((i : Int) < 20))))] ?_
 refine kC (decide ((i : Int) < 20)) (fun h16 => ?_) (fun h16 => ?_)
 have h16p := of_decide_eq_true h16
 have hlt :  (i : Int) < 20 := of_decide_eq_true h16
 have hkx := hrx.kn; have hmx := hrx.hm; have hzx := hrx.sz; have hrt := RB.tick hrx; have hkt := hrt.kn; have hmt := hrt.hm; have hzt := hrt.sz
 refine kK ?_
 refine kS ?_
 refine xw_block ?_
 refine kG ?_
 refine kCD 1 [3,4,8,66] [(66,.v (.agg (conL x (.slice A1 x.r.held.length c1)).toArray))] 42 [.agg (conL x (.slice A1 x.r.held.length c1)).toArray] (some 67) rfl (xc_r fun ww hw hf => yiTickConn_c x (.slice A1 x.r.held.length c1) ww (Own.sl (hf _ m0)) (by assumption) (by assumption) (by omega) w.heap.size hw) ?_
 rintro ⟨⟨v17a,v17c⟩,⟨v18a,v18c⟩⟩
 refine kEF [3,4,8] ⟨[(3,.p 0 0),(4,.p 1 0),(8,.v (.int .i64 (i : Int)))],[⟨34,conL d2a (.slice d2A d2a.r.held.length d2C)⟩,⟨34,conL (tickConn x).1 (.slice v17a ((tickConn x).1.r.held.length) v17c)⟩,⟨34,conL (tickConn d2a).1 (.slice v7a ((tickConn d2a).1.r.held.length) v7c)⟩],[],[ownF w.heap.size (.slice v17a ((tickConn x).1.r.held.length) v17c) 2 ((tickConn x).1.r.held.map pceCells),ownF w.heap.size (.slice v18a ((tickConn x).2.length) v18c) 13 ((tickConn x).2.map segCells),ownF w.heap.size (.slice A1 x.r.held.length c1) 2 (x.r.held.map pceCells),ownF w.heap.size (.slice v7a ((tickConn d2a).1.r.held.length) v7c) 2 ((tickConn d2a).1.r.held.map pceCells),ownF w.heap.size (.slice v8a ((tickConn d2a).2.length) v8c) 13 ((tickConn d2a).2.map segCells),ownF w.heap.size (.slice v4a ((tickConn d2a).2.length) v4c) 13 ((tickConn d2a).2.map segCells),newF w.heap.size (.slice d2A d2a.r.held.length d2C) 2 (d2a.r.held.map pceCells),slF (.slice Ac code.length Cc) 1 (code.map byteRow)]⟩ ?_
 refine kG ?_
 refine kRS 3 [3,4,8] [(3,.p 0 0),(4,.p 1 0),(8,.v (.int .i64 (IntKind.i64.wrap ((i : Int) + 1))))] ?_
 refine xl_eqS (t' := [(3,.p 0 0),(4,.p 1 0),(8,.v (.int .i64 ((i : Int) + 1)))]) (by rw [show (IntKind.i64.wrap ((i : Int) + 1)) = ((i : Int) + 1) from wrap_id (by omega) (by omega)]) ?_
 refine kED [3,4,8] [] ?_
 exact ⟨⟨(i + 1,(tickConn x).1,v17a,v17c),⟨(by (try dsimp only); omega),spent_step hsp,hrt⟩⟩,(wk_pick [0,3,4,5,6,7] [ownF w.heap.size (.slice v17a ((tickConn x).1.r.held.length) v17c) 2 ((tickConn x).1.r.held.map pceCells),ownF w.heap.size (.slice v7a ((tickConn d2a).1.r.held.length) v7c) 2 ((tickConn d2a).1.r.held.map pceCells),ownF w.heap.size (.slice v8a ((tickConn d2a).2.length) v8c) 13 ((tickConn d2a).2.map segCells),ownF w.heap.size (.slice v4a ((tickConn d2a).2.length) v4c) 13 ((tickConn d2a).2.map segCells),newF w.heap.size (.slice d2A d2a.r.held.length d2C) 2 (d2a.r.held.map pceCells),slF (.slice Ac code.length Cc) 1 (code.map byteRow)] (by kernel_rfl) (by kernel_rfl)).trans <| kF 3 0 [3,4,8],by show (fun (i : Nat) (x : Con) (A1 : Option Addr) (c1 : Nat) => 20 - i) (i + 1) ((tickConn x).1) v17a v17c < 20 - i; (dsimp only; omega)⟩
 have h16p := of_decide_eq_false h16
 have hge : ¬ (i : Int) < 20 := of_decide_eq_false h16
 have hse := fun q => spent_end hsp (by omega) q
 refine xw_exit ?_
 refine kQ ?_
 refine kCD 1 [4,70] [(70,.v (.agg (conL d2a (.slice d2A d2a.r.held.length d2C)).toArray))] 45 [.agg (conL d2a (.slice d2A d2a.r.held.length d2C)).toArray] (some 71) rfl (xc_b fun ww hf => ysWaits_c d2a (.slice d2A d2a.r.held.length d2C) ww (hf _ m4).1 (by assumption) (by omega)) ?_
 intro _
 refine kRS 2 [4,73] [(4,.p 1 0),(73,.v (.bool (!(waits d2a))))] ?_
 refine kP 73 (!(waits d2a)) (fun h19 => ?_) (fun h19 => ?_)
 have h19n := not_t h19
 have hnw := h19n
 refine kES [2] [(2,.v (.bool true))] ?_
 refine kR ?_
 exact ⟨[.bool true],by kernel_rfl,fun w' hb hf => ⟨rfl,hb⟩⟩
 have h19n := not_f h19
 have h19nc : conOk d2a = true := waits_ok (by simpa using h19n)
 have h19nq := conOk_bd h19nc; obtain ⟨h19nq0,h19nq1,h19nq2,h19nq3,h19nq4,h19nq5,h19nq6,h19nq7,h19nq8,h19nq9⟩ := h19nq
 have hwt := h19n
 refine kES [2] [(2,.v (.bool (x.state == 8)))] ?_
 refine kR ?_
 exact ⟨[.bool (x.state == 8)],by kernel_rfl,fun w' hb hf => ⟨ret_bool (show (x.state == 8 : Bool) = true from by first | (rw [tick_bad hno]; exact sameConn_self _) | (rw [hse hwt]; rfl)),hb⟩⟩
 have h14n := not_f h14
 have h14nc : conOk d2a = true := waits_ok (by simpa using h14n)
 have h14nq := conOk_bd h14nc; obtain ⟨h14nq0,h14nq1,h14nq2,h14nq3,h14nq4,h14nq5,h14nq6,h14nq7,h14nq8,h14nq9⟩ := h14nq
 have hwt := h14n
 refine kED [3,4,60] [(60,.v (.bool false))] ?_
 refine kN ?_
 refine kK ?_
 refine kS ?_
 refine kQ ?_
 refine kED [3,4,8] [(8,.v (.int .i64 0))] ?_
 refine xw_block ?_
 refine xw_loopW (α := {x : Nat × Con × Option Addr × Nat // (fun (i : Nat) (x : Con) (A1 : Option Addr) (c1 : Nat) => (i : Int) ≤ 20 ∧ spent d2a x i ∧ RB 4 x.r) x.1 x.2.1 x.2.2.1 x.2.2.2}) (fun x => (fun (i : Nat) (x : Con) (A1 : Option Addr) (c1 : Nat) => (⟨[(3,.p 0 0),(4,.p 1 0),(8,.v (.int .i64 (i : Int)))],[⟨34,conL d2a (.slice d2A d2a.r.held.length d2C)⟩,⟨34,conL x (.slice A1 x.r.held.length c1)⟩,⟨34,conL (tickConn d2a).1 (.slice v7a ((tickConn d2a).1.r.held.length) v7c)⟩],[],[ownF w.heap.size (.slice A1 x.r.held.length c1) 2 (x.r.held.map pceCells),ownF w.heap.size (.slice v7a ((tickConn d2a).1.r.held.length) v7c) 2 ((tickConn d2a).1.r.held.map pceCells),ownF w.heap.size (.slice v8a ((tickConn d2a).2.length) v8c) 13 ((tickConn d2a).2.map segCells),ownF w.heap.size (.slice v4a ((tickConn d2a).2.length) v4c) 13 ((tickConn d2a).2.map segCells),newF w.heap.size (.slice d2A d2a.r.held.length d2C) 2 (d2a.r.held.map pceCells),slF (.slice Ac code.length Cc) 1 (code.map byteRow)]⟩ : St)) x.1.1 x.1.2.1 x.1.2.2.1 x.1.2.2.2) (fun x => (fun (i : Nat) (x : Con) (A1 : Option Addr) (c1 : Nat) => 20 - i) x.1.1 x.1.2.1 x.1.2.2.1 x.1.2.2.2) ⟨(0,(tickConn d2a).1,v3a,v3c),⟨(by omega),spent_start _,RB.tick (hd2)⟩⟩ ((wk_pick [2,0,1,3,4,5] [ownF w.heap.size (.slice v3a ((tickConn d2a).1.r.held.length) v3c) 2 ((tickConn d2a).1.r.held.map pceCells),ownF w.heap.size (.slice v7a ((tickConn d2a).1.r.held.length) v7c) 2 ((tickConn d2a).1.r.held.map pceCells),ownF w.heap.size (.slice v8a ((tickConn d2a).2.length) v8c) 13 ((tickConn d2a).2.map segCells),ownF w.heap.size (.slice v4a ((tickConn d2a).2.length) v4c) 13 ((tickConn d2a).2.map segCells),newF w.heap.size (.slice d2A d2a.r.held.length d2C) 2 (d2a.r.held.map pceCells),slF (.slice Ac code.length Cc) 1 (code.map byteRow)] (by kernel_rfl) (by kernel_rfl)).trans <| kF 3 0 [3,4,8]) ?_
 rintro ⟨⟨i,x,A1,c1⟩,hi,hsp,hrx⟩
 try dsimp only
 try dsimp only at hi hsp hrx
 refine kS ?_
 refine kQ ?_
 refine kED [3,4,8,62] [(62,.v (.bool (decide ((i : Int) < 20))))] ?_
 refine kC (decide ((i : Int) < 20)) (fun h20 => ?_) (fun h20 => ?_)
 have h20p := of_decide_eq_true h20
 have hlt :  (i : Int) < 20 := of_decide_eq_true h20
 have hkx := hrx.kn; have hmx := hrx.hm; have hzx := hrx.sz; have hrt := RB.tick hrx; have hkt := hrt.kn; have hmt := hrt.hm; have hzt := hrt.sz
 refine kK ?_
 refine kS ?_
 refine xw_block ?_
 refine kG ?_
 refine kCD 1 [3,4,8,66] [(66,.v (.agg (conL x (.slice A1 x.r.held.length c1)).toArray))] 42 [.agg (conL x (.slice A1 x.r.held.length c1)).toArray] (some 67) rfl (xc_r fun ww hw hf => yiTickConn_c x (.slice A1 x.r.held.length c1) ww (Own.sl (hf _ m0)) (by assumption) (by assumption) (by omega) w.heap.size hw) ?_
 rintro ⟨⟨v21a,v21c⟩,⟨v22a,v22c⟩⟩
 refine kEF [3,4,8] ⟨[(3,.p 0 0),(4,.p 1 0),(8,.v (.int .i64 (i : Int)))],[⟨34,conL d2a (.slice d2A d2a.r.held.length d2C)⟩,⟨34,conL (tickConn x).1 (.slice v21a ((tickConn x).1.r.held.length) v21c)⟩,⟨34,conL (tickConn d2a).1 (.slice v7a ((tickConn d2a).1.r.held.length) v7c)⟩],[],[ownF w.heap.size (.slice v21a ((tickConn x).1.r.held.length) v21c) 2 ((tickConn x).1.r.held.map pceCells),ownF w.heap.size (.slice v22a ((tickConn x).2.length) v22c) 13 ((tickConn x).2.map segCells),ownF w.heap.size (.slice A1 x.r.held.length c1) 2 (x.r.held.map pceCells),ownF w.heap.size (.slice v7a ((tickConn d2a).1.r.held.length) v7c) 2 ((tickConn d2a).1.r.held.map pceCells),ownF w.heap.size (.slice v8a ((tickConn d2a).2.length) v8c) 13 ((tickConn d2a).2.map segCells),ownF w.heap.size (.slice v4a ((tickConn d2a).2.length) v4c) 13 ((tickConn d2a).2.map segCells),newF w.heap.size (.slice d2A d2a.r.held.length d2C) 2 (d2a.r.held.map pceCells),slF (.slice Ac code.length Cc) 1 (code.map byteRow)]⟩ ?_
 refine kG ?_
 refine kRS 3 [3,4,8] [(3,.p 0 0),(4,.p 1 0),(8,.v (.int .i64 (IntKind.i64.wrap ((i : Int) + 1))))] ?_
 refine xl_eqS (t' := [(3,.p 0 0),(4,.p 1 0),(8,.v (.int .i64 ((i : Int) + 1)))]) (by rw [show (IntKind.i64.wrap ((i : Int) + 1)) = ((i : Int) + 1) from wrap_id (by omega) (by omega)]) ?_
 refine kED [3,4,8] [] ?_
 exact ⟨⟨(i + 1,(tickConn x).1,v21a,v21c),⟨(by (try dsimp only); omega),spent_step hsp,hrt⟩⟩,(wk_pick [0,3,4,5,6,7] [ownF w.heap.size (.slice v21a ((tickConn x).1.r.held.length) v21c) 2 ((tickConn x).1.r.held.map pceCells),ownF w.heap.size (.slice v7a ((tickConn d2a).1.r.held.length) v7c) 2 ((tickConn d2a).1.r.held.map pceCells),ownF w.heap.size (.slice v8a ((tickConn d2a).2.length) v8c) 13 ((tickConn d2a).2.map segCells),ownF w.heap.size (.slice v4a ((tickConn d2a).2.length) v4c) 13 ((tickConn d2a).2.map segCells),newF w.heap.size (.slice d2A d2a.r.held.length d2C) 2 (d2a.r.held.map pceCells),slF (.slice Ac code.length Cc) 1 (code.map byteRow)] (by kernel_rfl) (by kernel_rfl)).trans <| kF 3 0 [3,4,8],by show (fun (i : Nat) (x : Con) (A1 : Option Addr) (c1 : Nat) => 20 - i) (i + 1) ((tickConn x).1) v21a v21c < 20 - i; (dsimp only; omega)⟩
 have h20p := of_decide_eq_false h20
 have hge : ¬ (i : Int) < 20 := of_decide_eq_false h20
 have hse := fun q => spent_end hsp (by omega) q
 refine xw_exit ?_
 refine kQ ?_
 refine kCD 1 [4,70] [(70,.v (.agg (conL d2a (.slice d2A d2a.r.held.length d2C)).toArray))] 45 [.agg (conL d2a (.slice d2A d2a.r.held.length d2C)).toArray] (some 71) rfl (xc_b fun ww hf => ysWaits_c d2a (.slice d2A d2a.r.held.length d2C) ww (hf _ m4).1 (by assumption) (by omega)) ?_
 intro _
 refine kRS 2 [4,73] [(4,.p 1 0),(73,.v (.bool (!(waits d2a))))] ?_
 refine kP 73 (!(waits d2a)) (fun h23 => ?_) (fun h23 => ?_)
 have h23n := not_t h23
 have hnw := h23n
 refine kES [2] [(2,.v (.bool true))] ?_
 refine kR ?_
 exact ⟨[.bool true],by kernel_rfl,fun w' hb hf => ⟨rfl,hb⟩⟩
 have h23n := not_f h23
 have h23nc : conOk d2a = true := waits_ok (by simpa using h23n)
 have h23nq := conOk_bd h23nc; obtain ⟨h23nq0,h23nq1,h23nq2,h23nq3,h23nq4,h23nq5,h23nq6,h23nq7,h23nq8,h23nq9⟩ := h23nq
 have hwt := h23n
 refine kES [2] [(2,.v (.bool (x.state == 8)))] ?_
 refine kR ?_
 exact ⟨[.bool (x.state == 8)],by kernel_rfl,fun w' hb hf => ⟨ret_bool (show (x.state == 8 : Bool) = true from by first | (rw [tick_bad hno]; exact sameConn_self _) | (rw [hse hwt]; rfl)),hb⟩⟩

set_option maxRecDepth 100000 in
theorem fnTick_lifted (os : Os) (started : os.Started) (H : Type) (enc : TypeId × Value → H) :
    ReturnsInHanded {} Tryz.checked os 8 .any (Rows.fnTickSpec.pre6 enc Tryz.prog Tryz.f8 Rows.fnTickRow.domain false) (Rows.fnTickSpec.post enc Tryz.prog Tryz.f8 false true false false) := by
  refine returnsInHanded_of_change (C := Tryz.checked) Tryz.ownK started (by kernel_rfl) Tryz.func8
    (ChangeSpec.witness6 (enc := enc) (C := Tryz.checked) false ⟨#[], #[.slice none 0 0], []⟩ 8 (by kernel_rfl) (by kernel_rfl) (by kernel_rfl) (by kernel_rfl)) ?_
  intro W base args ds gs before hval0 hW hcnd _
  have hval : ∀ (j : Nat) t v, Tryz.f8.params[j]? = some t → args[j]? = some v → Value.okWide Tryz.prog W .any base t v := hval0
  have hW' := hW
  obtain ⟨p, q, hA0, hV, rfl, hfz, hnd⟩ := hW
  have hA : DataW.TrodAll enc Tryz.prog W 0 (fun _ => true) true Tryz.f8.params.toList args.toList ds p := hA0
  rw [Tryz.params8] at hA hval
  obtain ⟨v0, vs0, d0, ds0, p0, q0, hargs, rfl, rfl, h0, r0⟩ := trodAll_cons hA
  obtain ⟨rfl, rfl, rfl⟩ := trodAll_nil r0
  obtain rfl : args = #[v0] := by cases args; simp_all
  obtain ⟨rfl, rfl⟩ := trodVars_none hV
  clear hA0 hval0
  have g0 := h0
  obtain ⟨l0, L0⟩ := openS_byte (hval 0 _ v0 rfl rfl) g0
  refine (fnTick_walk l0 v0 W L0).mono fun e W' ⟨he, hb⟩ => ?_
  subst he
  have hlt : ∀ x ∈ (p0 ++ ([])) ++ [], x.block < W.heap.size := fun x hx => hW'.lt x hx
  refine ⟨_, rfl, post_of_below (pa := (p0 ++ ([]))) (pv := []) hW' (fun _ _ _ => trodAll_cons_mk (shut_bool Tryz.underlying4 _) trodAll_mk0) (fun sp hsp => trodAll_cons_mk (WideElems.Trod_stays Tryz.laidOut (by kernel_rfl) (of_decide_eq_true (by kernel_rfl)) h0 (fun x hx => hb.same (hlt x (List.mem_append_left _ (List.mem_append_left _ hx)))) (fun x hx => hsp x (List.mem_append_left _ (List.mem_append_left _ hx)))) (trodAll_mk0)) (fun _ _ => rfl) rfl hb (ok_one (by kernel_rfl) rfl (okWide_bool_mk Tryz.underlying4 _))⟩

theorem fnTick_over : Rows.fnTickRow.holds Tryz.pinned (OpenSpec.ofChange Rows.fnTickSpec) :=
  OpenClaim.holds_of_wide 8 Tryz.f8 rfl rfl rfl rfl rfl rfl rfl ⟨rfl, rfl, rfl, rfl, rfl⟩ rfl rfl rfl rfl rfl (by kernel_rfl) Tryz.func8 (by kernel_rfl)
    (of_decide_eq_true (by kernel_rfl)) (by unfold Func.isWrapper; first | (rw [if_pos (by decide +kernel)]; kernel_rfl) | (rw [if_neg (by decide +kernel)]; exact ⟨rfl, rfl⟩))
    (fun os started H enc _ => fnTick_lifted os started H enc)

theorem fnTick_holds : Rows.FnTickSaid := fnTick_over
#print axioms fnTick_holds
end Go.Proofs.YtnmmhbhdcplfmaaGreat
