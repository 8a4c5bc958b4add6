/- The law FnReceiver holds: for every argument the program's function answers true and leaves its arguments as they were. Conditions: none beyond the given row's. -/
import Derived.Test.YtnmmhbhdcplfmaaZ2
import Derived.Test.YtnmmhbhdcplfmaaG3
import Derived.Test.YtnmmhbhdcplfmaaG2
namespace Go.Proofs.Ytnmmhbhdcplfmaa
open Go.RowKit Go.ChangeShapes Go.WideShapes Go.ChangeAt
set_option linter.unusedVariables false
set_option linter.unusedSimpArgs false

set_option maxRecDepth 100000 in
set_option maxHeartbeats 2000000 in
theorem fnReceiver_walk (code : List Int) (codeV : Value) (w : World) (hl_codeV : Sl w codeV 1 (code.map byteRow)) : Calls Try.prog 6 #[codeV] w fun e w' => e = .returned (.bool true) ∧ Below w.heap.size w w' := by
 obtain ⟨Ac,Cc,hvc⟩ := hl_codeV.form
 rw [List.length_map] at hvc; subst hvc
 have hnc := hl_codeV.len; rw [List.length_map] at hnc
 have hqc := Sl.capLe hl_codeV
 refine x_calls (args := [.slice Ac code.length Cc]) (fn := Try.f6) [slF (.slice Ac code.length Cc) 1 (code.map byteRow)] Try.func6 rfl Try.ntmps6 rfl (by simp only [List.mem_cons,List.not_mem_nil,or_false,forall_eq_or_imp,forall_eq]; exact ⟨rfl,hl_codeV⟩) ?_
 refine kQ ?_
 refine kEF [0] ⟨[(0,.v (.slice Ac code.length Cc))],[],[],[slF (.slice Ac code.length Cc) 1 (code.map byteRow)]⟩ ?_
 refine kS ?_
 refine kQ ?_
 refine kCD 1 [0,9] [(9,.v (.slice Ac code.length Cc))] 8 [.slice Ac code.length Cc] (some 10) rfl (xc_b fun ww hf => big_c code Ac Cc ww (hf _ m0)) ?_
 intro _
 refine kED [0,10] [] ?_
 refine kC (decide (((code.length : Nat) : Int) > 1048576)) (fun h1 => ?_) (fun h1 => ?_)
 have h1p := of_decide_eq_true h1
 refine kQ ?_
 refine kES [2] [(2,.v (.bool true))] ?_
 refine kR ?_
 exact ⟨[.bool true],by kernel_rfl,fun w' hb hf => ⟨rfl,hb⟩⟩
 have h1p := of_decide_eq_false h1
 have hbig : code.length ≤ 1048576 := by simp at h1; omega
 refine kK ?_
 refine kQ ?_
 refine kCS 1 [12] [(12,.v (.slice Ac code.length Cc))] 29 [.slice Ac code.length Cc] (some 13) rfl (xc_newF (α := {y : (Rcv × Int × ByteArray × Bool) × (Option Addr × Nat) // RB 4 y.1.1 ∧ y.1.2.2.1.size ≤ 4096}) (F := fun y => .tuple #[.agg #[.int .i64 y.1.1.1.next,.string y.1.1.1.data,.slice y.1.2.1 y.1.1.1.held.length y.1.2.2,.int .i64 y.1.1.1.fin,.bool y.1.1.1.done],.int .i64 y.1.1.2.1,.string y.1.1.2.2.1,.bool y.1.1.2.2.2]) (v := fun y => .slice y.1.2.1 y.1.1.1.held.length y.1.2.2) (rs := fun y => y.1.1.1.held.map pceCells) fun ww hw hf => drawArrived_c code Ac Cc ww (hf _ m0) (by omega)) ?_
 rintro ⟨⟨⟨d2a,d2b,d2c,d2d⟩,d2A,d2C⟩,hd2⟩
 dsimp only at hd2
 have hkn := hd2.1.kn; have hm := hd2.1.hm; have hsz := hd2.1.sz
 have hrd1 := hd2.1.1; have hrd2 := hd2.1.2.2
 have hts := hd2.2
 refine kEA [3,4,5,6] [(3,.p 0 0),(4,.v (.int .i64 d2b)),(5,.v (.string d2c)),(6,.v (.bool d2d))] [⟨26,rcvL d2a (.slice d2A d2a.held.length d2C)⟩] ?_
 refine kQ ?_
 refine kCD 4 [3,4,5,6,18,19,20,21] [(18,.v (.agg (rcvL d2a (.slice d2A d2a.held.length d2C)).toArray)),(19,.v (.int .i64 d2b)),(20,.v (.string d2c)),(21,.v (.bool d2d))] 30 [.agg (rcvL d2a (.slice d2A d2a.held.length d2C)).toArray,.int .i64 d2b,.string d2c,.bool d2d] (some 22) rfl (xc_r fun ww hw hf => yiArrived_c d2a (.slice d2A d2a.held.length d2C) d2b d2c d2d ww (hf _ m0).1 (by assumption) (by assumption) (by omega) (by omega) w.heap.size hw) ?_
 rintro ⟨v3a,v3c⟩
 have hra4 := RB.arr hd2.1 (by omega) d2b d2c d2d; have hra4a := hra4.kn; have hra4b := hra4.hm; have hra4c := hra4.sz
 refine kEA [3,4,5,6,7] [(7,.p 1 0)] [⟨26,rcvL (arrived d2a d2b d2c d2d) (.slice v3a ((arrived d2a d2b d2c d2d).held.length) v3c)⟩] ?_
 refine kS ?_
 refine kS ?_
 refine xe_region [] (by kernel_rfl) (fun ρ σ => ?_)
 refine kTS [0,1,2,3,4] [27,26,25,24,23,3,7] 10 [(27,.v (.bool d2d)),(26,.v (.string d2c)),(25,.v (.int .i64 d2b)),(24,.v (.agg (rcvL d2a (.slice d2A d2a.held.length d2C)).toArray)),(23,.v (.agg (rcvL (arrived d2a d2b d2c d2d) (.slice v3a ((arrived d2a d2b d2c d2d).held.length) v3c)).toArray)),(3,.p 0 0),(7,.p 1 0)] ?_
 refine kA [5] ?_
 refine kSC 5 31 [.agg (rcvL d2a (.slice d2A d2a.held.length d2C)).toArray,.int .i64 d2b,.string d2c,.bool d2d] (some 28) rfl (xc_r fun ww hw hf => ysArrived_c d2a (.slice d2A d2a.held.length d2C) d2b d2c d2d ww (hf _ m1).1 (by assumption) (by assumption) (by omega) (by omega) w.heap.size hw) ?_
 rintro ⟨v5a,v5c⟩
 refine kA [6] ?_
 refine kSC 6 12 [.agg (rcvL (arrived d2a d2b d2c d2d) (.slice v3a ((arrived d2a d2b d2c d2d).held.length) v3c)).toArray,.agg (rcvL (arrived d2a d2b d2c d2d) (.slice v5a ((arrived d2a d2b d2c d2d).held.length) v5c)).toArray] (some 29) rfl (xc_b fun ww hf => ysSameReceiver_c (arrived d2a d2b d2c d2d) (.slice v3a ((arrived d2a d2b d2c d2d).held.length) v3c) (arrived d2a d2b d2c d2d) (.slice v5a ((arrived d2a d2b d2c d2d).held.length) v5c) ww (Own.sl (hf _ m1)) (rowF_sl (hf _ m0)) ) ?_
 intro _
 refine kTS [7,8] [31,3,7] 6 [(31,.v (.bool (!(sameReceiver (arrived d2a d2b d2c d2d) (arrived d2a d2b d2c d2d))))),(3,.p 0 0),(7,.p 1 0)] ?_
 refine kY 31 (!(sameReceiver (arrived d2a d2b d2c d2d) (arrived d2a d2b d2c d2d))) (fun h6 => ?_) (fun h6 => ?_)
 have h6n := not_t h6
 exfalso; rw [sameR_self] at h6n; cases h6n
 have h6n := not_f h6
 refine kTS [9,11] [34,32,31,3,7] 4 [(34,.v (.agg (rcvL d2a (.slice d2A d2a.held.length d2C)).toArray)),(32,.v (.agg (rcvL d2a (.slice d2A d2a.held.length d2C)).toArray)),(31,.v (.bool false)),(3,.p 0 0),(7,.p 1 0)] ?_
 refine kA [10] ?_
 refine kSC 10 14 [.agg (rcvL d2a (.slice d2A d2a.held.length d2C)).toArray] (some 33) rfl (xc_b fun ww hf => yiReceiverOk_c d2a (.slice d2A d2a.held.length d2C) ww (hf _ m2).1 (by assumption) (by omega)) ?_
 intro _
 refine kA [12] ?_
 refine kSC 12 13 [.agg (rcvL d2a (.slice d2A d2a.held.length d2C)).toArray] (some 35) rfl (xc_b fun ww hf => ysReceiverOk_c d2a (.slice d2A d2a.held.length d2C) ww (hf _ m2).1 (by assumption) (by omega)) ?_
 intro _
 refine kTS [13,14] [37,3,7] 0 [(37,.v (.bool (!((receiverOk d2a) == (receiverOk d2a))))),(3,.p 0 0),(7,.p 1 0)] ?_
 refine kZ ?_
 refine kC (!((receiverOk d2a) == (receiverOk d2a))) (fun h7 => ?_) (fun h7 => ?_)
 have h7n := not_t h7
 simp at h7n
 have h7n := not_f h7
 have h7np := eqT h7n
 refine kK ?_
 refine kS ?_
 refine kQ ?_
 refine kCD 1 [3,7,38] [(38,.v (.agg (rcvL d2a (.slice d2A d2a.held.length d2C)).toArray))] 13 [.agg (rcvL d2a (.slice d2A d2a.held.length d2C)).toArray] (some 39) rfl (xc_b fun ww hf => ysReceiverOk_c d2a (.slice d2A d2a.held.length d2C) ww (hf _ m2).1 (by assumption) (by omega)) ?_
 intro _
 refine kED [3,7,40] [(40,.v (.bool (!(receiverOk d2a))))] ?_
 refine kC (!(receiverOk d2a)) (fun h8 => ?_) (fun h8 => ?_)
 have h8n := not_t h8
 have hno := h8n
 refine kQ ?_
 refine kCS 2 [41,42] [(41,.v (.agg (rcvL (arrived d2a d2b d2c d2d) (.slice v3a ((arrived d2a d2b d2c d2d).held.length) v3c)).toArray)),(42,.v (.agg (rcvL d2a (.slice d2A d2a.held.length d2C)).toArray))] 12 [.agg (rcvL (arrived d2a d2b d2c d2d) (.slice v3a ((arrived d2a d2b d2c d2d).held.length) v3c)).toArray,.agg (rcvL d2a (.slice d2A d2a.held.length d2C)).toArray] (some 43) rfl (xc_b fun ww hf => ysSameReceiver_c (arrived d2a d2b d2c d2d) (.slice v3a ((arrived d2a d2b d2c d2d).held.length) v3c) d2a (.slice d2A d2a.held.length d2C) ww (Own.sl (hf _ m1)) (hf _ m2).1 ) ?_
 intro _
 refine kES [2] [(2,.v (.bool (sameReceiver (arrived d2a d2b d2c d2d) d2a)))] ?_
 refine kR ?_
 exact ⟨[.bool (sameReceiver (arrived d2a d2b d2c d2d) d2a)],by kernel_rfl,fun w' hb hf => ⟨ret_bool (show (sameReceiver (arrived d2a d2b d2c d2d) d2a : Bool) = true from by first | (rw [arrived_bad _ _ _ hno]; exact sameR_self _) | exact decide_eq_true hx6),hb⟩⟩
 have h8n := not_f h8
 have hok := h8n
 obtain ⟨hx1,hx2,hx3,hx4,hx5,hx6⟩ := arrived_facts d2b d2c d2d hok
 have hx4b : (arrived d2a d2b d2c d2d).data.extract 0 (d2a.data.size : Int).toNat = d2a.data := hx4
 have hxA : (arrived d2a d2b d2c d2d).done = true → d2a.done = false → seqAdd d2a.next ((((arrived d2a d2b d2c d2d).data.size : Int) - (d2a.data.size : Int)) + 1) = (arrived d2a d2b d2c d2d).next := fun a b => by have e := hx5; rw [if_pos (by rw [a,b]; rfl)] at e; exact e
 have hxB : (arrived d2a d2b d2c d2d).done = false → seqAdd d2a.next (((arrived d2a d2b d2c d2d).data.size : Int) - (d2a.data.size : Int)) = (arrived d2a d2b d2c d2d).next := fun a => by have e := hx5; rw [if_neg (by rw [a]; simp),Int.add_zero] at e; exact e
 have hxC : d2a.done = true → seqAdd d2a.next (((arrived d2a d2b d2c d2d).data.size : Int) - (d2a.data.size : Int)) = (arrived d2a d2b d2c d2d).next := fun a => by have e := hx5; rw [if_neg (by rw [a]; simp),Int.add_zero] at e; exact e
 refine kK ?_
 refine kQ ?_
 refine kRS 8 [3,7,8] [(3,.p 0 0),(7,.p 1 0),(8,.v (.int .i64 (IntKind.i64.wrap ((((arrived d2a d2b d2c d2d).data).size : Int) - (d2a.data.size : Int)))))] ?_
 refine xl_eqS (t' := [(3,.p 0 0),(7,.p 1 0),(8,.v (.int .i64 ((((arrived d2a d2b d2c d2d).data).size : Int) - (d2a.data.size : Int))))]) (by rw [show (IntKind.i64.wrap ((((arrived d2a d2b d2c d2d).data).size : Int) - (d2a.data.size : Int))) = ((((arrived d2a d2b d2c d2d).data).size : Int) - (d2a.data.size : Int)) from wrap_id (by omega) (by omega)]) ?_
 refine kED [3,7,8] [] ?_
 refine kS ?_
 refine kS ?_
 refine xe_region [] (by kernel_rfl) (fun ρ σ => ?_)
 refine kTS [0,1,2] [53,3,7,8] 15 [(53,.v (.bool (decide (((((arrived d2a d2b d2c d2d).data).size : Int) - (d2a.data.size : Int)) < 0)))),(3,.p 0 0),(7,.p 1 0),(8,.v (.int .i64 ((((arrived d2a d2b d2c d2d).data).size : Int) - (d2a.data.size : Int))))] ?_
 refine kY 53 (decide (((((arrived d2a d2b d2c d2d).data).size : Int) - (d2a.data.size : Int)) < 0)) (fun h9 => ?_) (fun h9 => ?_)
 have h9p := of_decide_eq_true h9
 exfalso; have := of_decide_eq_true h9; omega
 have h9p := of_decide_eq_false h9
 refine kTS [3,4,5,6,7,9,10] [61,58,55,53,3,7,8] 8 [(61,.v (.string d2a.data)),(58,.v (.int .i64 (d2a.data.size : Int))),(55,.v (.string ((arrived d2a d2b d2c d2d).data))),(53,.v (.bool false)),(3,.p 0 0),(7,.p 1 0),(8,.v (.int .i64 ((((arrived d2a d2b d2c d2d).data).size : Int) - (d2a.data.size : Int))))] ?_
 refine kX 8 (.string (((arrived d2a d2b d2c d2d).data).extract 0 ((d2a.data.size : Int)).toNat)) rfl (fun _ _ ww hA => act_slS0 ((d2a.data.size : Int)) hA rfl (by kernel_rfl) rfl rfl (by omega) (by omega) ww) ?_
 refine kTS [11,12,13] [64,3,7,8] 4 [(64,.v (.bool (!((((arrived d2a d2b d2c d2d).data).extract 0 ((d2a.data.size : Int)).toNat).toList == d2a.data.toList)))),(3,.p 0 0),(7,.p 1 0),(8,.v (.int .i64 ((((arrived d2a d2b d2c d2d).data).size : Int) - (d2a.data.size : Int))))] ?_
 refine kY 64 (!((((arrived d2a d2b d2c d2d).data).extract 0 ((d2a.data.size : Int)).toNat).toList == d2a.data.toList)) (fun h10 => ?_) (fun h10 => ?_)
 have h10n := not_t h10
 have h10np := h10n; simp only [beq_iff_eq,bne_iff_ne,beq_eq_false_iff_ne,bne_eq_false_iff_eq,ne_eq,toList_lit0] at h10np
 exfalso; rw [hx4b] at h10n; simp at h10n
 have h10n := not_f h10
 have h10np := h10n; simp only [beq_iff_eq,bne_iff_ne,beq_eq_false_iff_ne,bne_eq_false_iff_eq,ne_eq,toList_lit0] at h10np
 refine kTS [14] [65,64,3,7,8] 3 [(65,.v (.agg (rcvL (arrived d2a d2b d2c d2d) (.slice v3a ((arrived d2a d2b d2c d2d).held.length) v3c)).toArray)),(64,.v (.bool false)),(3,.p 0 0),(7,.p 1 0),(8,.v (.int .i64 ((((arrived d2a d2b d2c d2d).data).size : Int) - (d2a.data.size : Int))))] ?_
 refine kA [15] ?_
 refine kSC 15 14 [.agg (rcvL (arrived d2a d2b d2c d2d) (.slice v3a ((arrived d2a d2b d2c d2d).held.length) v3c)).toArray] (some 66) rfl (xc_b fun ww hf => yiReceiverOk_c (arrived d2a d2b d2c d2d) (.slice v3a ((arrived d2a d2b d2c d2d).held.length) v3c) ww (Own.sl (hf _ m1)) (by assumption) (by omega)) ?_
 intro _
 refine kTS [16,17] [68,3,7,8] 0 [(68,.v (.bool (!(receiverOk (arrived d2a d2b d2c d2d))))),(3,.p 0 0),(7,.p 1 0),(8,.v (.int .i64 ((((arrived d2a d2b d2c d2d).data).size : Int) - (d2a.data.size : Int))))] ?_
 refine kZ ?_
 refine kC (!(receiverOk (arrived d2a d2b d2c d2d))) (fun h11 => ?_) (fun h11 => ?_)
 have h11n := not_t h11
 exfalso; rw [hx1] at h11n; cases h11n
 have h11n := not_f h11
 refine kK ?_
 refine kS ?_
 refine kQ ?_
 refine kRD 3 [3,7,8,71] [(71,.v (.bool ((arrived d2a d2b d2c d2d).done)))] ?_
 refine kP 71 ((arrived d2a d2b d2c d2d).done) (fun h12 => ?_) (fun h12 => ?_)
 refine kED [3,7,8,75] [(75,.v (.bool (!d2a.done)))] ?_
 refine kC (!d2a.done) (fun h13 => ?_) (fun h13 => ?_)
 have h13n := not_t h13
 refine kG ?_
 refine kRS 3 [3,7,8] [(3,.p 0 0),(7,.p 1 0),(8,.v (.int .i64 (IntKind.i64.wrap (((((arrived d2a d2b d2c d2d).data).size : Int) - (d2a.data.size : Int)) + 1))))] ?_
 refine xl_eqS (t' := [(3,.p 0 0),(7,.p 1 0),(8,.v (.int .i64 (((((arrived d2a d2b d2c d2d).data).size : Int) - (d2a.data.size : Int)) + 1)))]) (by rw [show (IntKind.i64.wrap (((((arrived d2a d2b d2c d2d).data).size : Int) - (d2a.data.size : Int)) + 1)) = (((((arrived d2a d2b d2c d2d).data).size : Int) - (d2a.data.size : Int)) + 1) from wrap_id (by omega) (by omega)]) ?_
 refine kED [3,7,8] [] ?_
 refine kS ?_
 refine xe_region [] (by kernel_rfl) (fun ρ σ => ?_)
 refine kTS [0,1,2,4,5] [83,80,79,3,7] 10 [(83,.v (.int .i64 ((arrived d2a d2b d2c d2d).next))),(80,.v (.int .i64 (((((arrived d2a d2b d2c d2d).data).size : Int) - (d2a.data.size : Int)) + 1))),(79,.v (.int .i64 d2a.next)),(3,.p 0 0),(7,.p 1 0)] ?_
 refine kA [3] ?_
 refine kSC 3 32 [.int .i64 d2a.next,.int .i64 (((((arrived d2a d2b d2c d2d).data).size : Int) - (d2a.data.size : Int)) + 1)] (some 81) rfl (xc_s fun ww hf => iSeqAdd_c d2a.next (((((arrived d2a d2b d2c d2d).data).size : Int) - (d2a.data.size : Int)) + 1) ww ) ?_
 intro _
 refine kTS [6,7] [85,3,7] 7 [(85,.v (.bool ((seqAdd d2a.next (((((arrived d2a d2b d2c d2d).data).size : Int) - (d2a.data.size : Int)) + 1)) == ((arrived d2a d2b d2c d2d).next)))),(3,.p 0 0),(7,.p 1 0)] ?_
 refine kY 85 ((seqAdd d2a.next (((((arrived d2a d2b d2c d2d).data).size : Int) - (d2a.data.size : Int)) + 1)) == ((arrived d2a d2b d2c d2d).next)) (fun h14 => ?_) (fun h14 => ?_)
 have h14p := eqT h14
 refine kTS [8,10] [88,86,85] 5 [(88,.v (.agg (rcvL d2a (.slice d2A d2a.held.length d2C)).toArray)),(86,.v (.agg (rcvL (arrived d2a d2b d2c d2d) (.slice v3a ((arrived d2a d2b d2c d2d).held.length) v3c)).toArray)),(85,.v (.bool true))] ?_
 refine kA [9] ?_
 refine kSC 9 15 [.agg (rcvL (arrived d2a d2b d2c d2d) (.slice v3a ((arrived d2a d2b d2c d2d).held.length) v3c)).toArray] (some 87) rfl (xc_b fun ww hf => iWindowOf_c ((arrived d2a d2b d2c d2d).next) ((arrived d2a d2b d2c d2d).data) ((arrived d2a d2b d2c d2d).held) (.slice v3a ((arrived d2a d2b d2c d2d).held.length) v3c) ((arrived d2a d2b d2c d2d).fin) ((arrived d2a d2b d2c d2d).done) ww (by omega)) ?_
 intro _
 refine kA [11] ?_
 refine kSC 11 15 [.agg (rcvL d2a (.slice d2A d2a.held.length d2C)).toArray] (some 89) rfl (xc_b fun ww hf => iWindowOf_c d2a.next d2a.data d2a.held (.slice d2A d2a.held.length d2C) d2a.fin d2a.done ww (by omega)) ?_
 intro _
 refine kTS [12,13,14] [2] 0 [(2,.v (.bool (decide ((windowOf (arrived d2a d2b d2c d2d)) ≤ (windowOf d2a)))))] ?_
 refine kZ ?_
 refine kR ?_
 exact ⟨[.bool (decide ((windowOf (arrived d2a d2b d2c d2d)) ≤ (windowOf d2a)))],by kernel_rfl,fun w' hb hf => ⟨ret_bool (show (decide ((windowOf (arrived d2a d2b d2c d2d)) ≤ (windowOf d2a)) : Bool) = true from by first | (rw [arrived_bad _ _ _ hno]; exact sameR_self _) | exact decide_eq_true hx6),hb⟩⟩
 have h14p := eqF h14
 exfalso; first | (rw [hxA (by assumption) (by assumption)] at h14; simp at h14) | (rw [hxB (by assumption)] at h14; simp at h14) | (rw [hxC (by assumption)] at h14; simp at h14)
 have h13n := not_f h13
 refine kK ?_
 refine kS ?_
 refine xe_region [] (by kernel_rfl) (fun ρ σ => ?_)
 refine kTS [0,1,2,4,5] [83,80,79,3,7] 10 [(83,.v (.int .i64 ((arrived d2a d2b d2c d2d).next))),(80,.v (.int .i64 ((((arrived d2a d2b d2c d2d).data).size : Int) - (d2a.data.size : Int)))),(79,.v (.int .i64 d2a.next)),(3,.p 0 0),(7,.p 1 0)] ?_
 refine kA [3] ?_
 refine kSC 3 32 [.int .i64 d2a.next,.int .i64 ((((arrived d2a d2b d2c d2d).data).size : Int) - (d2a.data.size : Int))] (some 81) rfl (xc_s fun ww hf => iSeqAdd_c d2a.next ((((arrived d2a d2b d2c d2d).data).size : Int) - (d2a.data.size : Int)) ww ) ?_
 intro _
 refine kTS [6,7] [85,3,7] 7 [(85,.v (.bool ((seqAdd d2a.next ((((arrived d2a d2b d2c d2d).data).size : Int) - (d2a.data.size : Int))) == ((arrived d2a d2b d2c d2d).next)))),(3,.p 0 0),(7,.p 1 0)] ?_
 refine kY 85 ((seqAdd d2a.next ((((arrived d2a d2b d2c d2d).data).size : Int) - (d2a.data.size : Int))) == ((arrived d2a d2b d2c d2d).next)) (fun h15 => ?_) (fun h15 => ?_)
 have h15p := eqT h15
 refine kTS [8,10] [88,86,85] 5 [(88,.v (.agg (rcvL d2a (.slice d2A d2a.held.length d2C)).toArray)),(86,.v (.agg (rcvL (arrived d2a d2b d2c d2d) (.slice v3a ((arrived d2a d2b d2c d2d).held.length) v3c)).toArray)),(85,.v (.bool true))] ?_
 refine kA [9] ?_
 refine kSC 9 15 [.agg (rcvL (arrived d2a d2b d2c d2d) (.slice v3a ((arrived d2a d2b d2c d2d).held.length) v3c)).toArray] (some 87) rfl (xc_b fun ww hf => iWindowOf_c ((arrived d2a d2b d2c d2d).next) ((arrived d2a d2b d2c d2d).data) ((arrived d2a d2b d2c d2d).held) (.slice v3a ((arrived d2a d2b d2c d2d).held.length) v3c) ((arrived d2a d2b d2c d2d).fin) ((arrived d2a d2b d2c d2d).done) ww (by omega)) ?_
 intro _
 refine kA [11] ?_
 refine kSC 11 15 [.agg (rcvL d2a (.slice d2A d2a.held.length d2C)).toArray] (some 89) rfl (xc_b fun ww hf => iWindowOf_c d2a.next d2a.data d2a.held (.slice d2A d2a.held.length d2C) d2a.fin d2a.done ww (by omega)) ?_
 intro _
 refine kTS [12,13,14] [2] 0 [(2,.v (.bool (decide ((windowOf (arrived d2a d2b d2c d2d)) ≤ (windowOf d2a)))))] ?_
 refine kZ ?_
 refine kR ?_
 exact ⟨[.bool (decide ((windowOf (arrived d2a d2b d2c d2d)) ≤ (windowOf d2a)))],by kernel_rfl,fun w' hb hf => ⟨ret_bool (show (decide ((windowOf (arrived d2a d2b d2c d2d)) ≤ (windowOf d2a)) : Bool) = true from by first | (rw [arrived_bad _ _ _ hno]; exact sameR_self _) | exact decide_eq_true hx6),hb⟩⟩
 have h15p := eqF h15
 exfalso; first | (rw [hxA (by assumption) (by assumption)] at h15; simp at h15) | (rw [hxB (by assumption)] at h15; simp at h15) | (rw [hxC (by assumption)] at h15; simp at h15)
 refine kED [3,7,8,75] [(75,.v (.bool false))] ?_
 refine kN ?_
 refine kK ?_
 refine kS ?_
 refine xe_region [] (by kernel_rfl) (fun ρ σ => ?_)
 refine kTS [0,1,2,4,5] [83,80,79,3,7] 10 [(83,.v (.int .i64 ((arrived d2a d2b d2c d2d).next))),(80,.v (.int .i64 ((((arrived d2a d2b d2c d2d).data).size : Int) - (d2a.data.size : Int)))),(79,.v (.int .i64 d2a.next)),(3,.p 0 0),(7,.p 1 0)] ?_
 refine kA [3] ?_
 refine kSC 3 32 [.int .i64 d2a.next,.int .i64 ((((arrived d2a d2b d2c d2d).data).size : Int) - (d2a.data.size : Int))] (some 81) rfl (xc_s fun ww hf => iSeqAdd_c d2a.next ((((arrived d2a d2b d2c d2d).data).size : Int) - (d2a.data.size : Int)) ww ) ?_
 intro _
 refine kTS [6,7] [85,3,7] 7 [(85,.v (.bool ((seqAdd d2a.next ((((arrived d2a d2b d2c d2d).data).size : Int) - (d2a.data.size : Int))) == ((arrived d2a d2b d2c d2d).next)))),(3,.p 0 0),(7,.p 1 0)] ?_
 refine kY 85 ((seqAdd d2a.next ((((arrived d2a d2b d2c d2d).data).size : Int) - (d2a.data.size : Int))) == ((arrived d2a d2b d2c d2d).next)) (fun h16 => ?_) (fun h16 => ?_)
 have h16p := eqT h16
 refine kTS [8,10] [88,86,85] 5 [(88,.v (.agg (rcvL d2a (.slice d2A d2a.held.length d2C)).toArray)),(86,.v (.agg (rcvL (arrived d2a d2b d2c d2d) (.slice v3a ((arrived d2a d2b d2c d2d).held.length) v3c)).toArray)),(85,.v (.bool true))] ?_
 refine kA [9] ?_
 refine kSC 9 15 [.agg (rcvL (arrived d2a d2b d2c d2d) (.slice v3a ((arrived d2a d2b d2c d2d).held.length) v3c)).toArray] (some 87) rfl (xc_b fun ww hf => iWindowOf_c ((arrived d2a d2b d2c d2d).next) ((arrived d2a d2b d2c d2d).data) ((arrived d2a d2b d2c d2d).held) (.slice v3a ((arrived d2a d2b d2c d2d).held.length) v3c) ((arrived d2a d2b d2c d2d).fin) ((arrived d2a d2b d2c d2d).done) ww (by omega)) ?_
 intro _
 refine kA [11] ?_
 refine kSC 11 15 [.agg (rcvL d2a (.slice d2A d2a.held.length d2C)).toArray] (some 89) rfl (xc_b fun ww hf => iWindowOf_c d2a.next d2a.data d2a.held (.slice d2A d2a.held.length d2C) d2a.fin d2a.done ww (by omega)) ?_
 intro _
 refine kTS [12,13,14] [2] 0 [(2,.v (.bool (decide ((windowOf (arrived d2a d2b d2c d2d)) ≤ (windowOf d2a)))))] ?_
 refine kZ ?_
 refine kR ?_
 exact ⟨[.bool (decide ((windowOf (arrived d2a d2b d2c d2d)) ≤ (windowOf d2a)))],by kernel_rfl,fun w' hb hf => ⟨ret_bool (show (decide ((windowOf (arrived d2a d2b d2c d2d)) ≤ (windowOf d2a)) : Bool) = true from by first | (rw [arrived_bad _ _ _ hno]; exact sameR_self _) | exact decide_eq_true hx6),hb⟩⟩
 have h16p := eqF h16
 exfalso; first | (rw [hxA (by assumption) (by assumption)] at h16; simp at h16) | (rw [hxB (by assumption)] at h16; simp at h16) | (rw [hxC (by assumption)] at h16; simp at h16)

set_option maxRecDepth 100000 in
theorem fnReceiver_lifted (os : Os) (started : os.Started) (H : Type) (enc : TypeId × Value → H) :
    ReturnsInHanded {} Try.checked os 6 .any (Rows.fnReceiverSpec.pre6 enc Try.prog Try.f6 Rows.fnReceiverRow.domain false) (Rows.fnReceiverSpec.post enc Try.prog Try.f6 false true false false) := by
  refine returnsInHanded_of_change (C := Try.checked) Try.ownK started (by kernel_rfl) Try.func6
    (ChangeSpec.witness6 (enc := enc) (C := Try.checked) false ⟨#[], #[.slice none 0 0], []⟩ 8 (by kernel_rfl) (by kernel_rfl) (by kernel_rfl) (by kernel_rfl)) ?_
  intro W base args ds gs before hval0 hW hcnd _
  have hval : ∀ (j : Nat) t v, Try.f6.params[j]? = some t → args[j]? = some v → Value.okWide Try.prog W .any base t v := hval0
  have hW' := hW
  obtain ⟨p, q, hA0, hV, rfl, hfz, hnd⟩ := hW
  have hA : DataW.TrodAll enc Try.prog W 0 (fun _ => true) true Try.f6.params.toList args.toList ds p := hA0
  rw [Try.params6] at hA hval
  obtain ⟨v0, vs0, d0, ds0, p0, q0, hargs, rfl, rfl, h0, r0⟩ := trodAll_cons hA
  obtain ⟨rfl, rfl, rfl⟩ := trodAll_nil r0
  obtain rfl : args = #[v0] := by cases args; simp_all
  obtain ⟨rfl, rfl⟩ := trodVars_none hV
  clear hA0 hval0
  have g0 := h0
  obtain ⟨l0, L0⟩ := openS_byte (hval 0 _ v0 rfl rfl) g0
  refine (fnReceiver_walk l0 v0 W L0).mono fun e W' ⟨he, hb⟩ => ?_
  subst he
  have hlt : ∀ x ∈ (p0 ++ ([])) ++ [], x.block < W.heap.size := fun x hx => hW'.lt x hx
  refine ⟨_, rfl, post_of_below (pa := (p0 ++ ([]))) (pv := []) hW' (fun _ _ _ => trodAll_cons_mk (shut_bool Try.underlying4 _) trodAll_mk0) (fun sp hsp => trodAll_cons_mk (WideElems.Trod_stays Try.laidOut (by kernel_rfl) (of_decide_eq_true (by kernel_rfl)) h0 (fun x hx => hb.same (hlt x (List.mem_append_left _ (List.mem_append_left _ hx)))) (fun x hx => hsp x (List.mem_append_left _ (List.mem_append_left _ hx)))) (trodAll_mk0)) (fun _ _ => rfl) rfl hb (ok_one (by kernel_rfl) rfl (okWide_bool_mk Try.underlying4 _))⟩

theorem fnReceiver_over : Rows.fnReceiverRow.holds Try.pinned (OpenSpec.ofChange Rows.fnReceiverSpec) :=
  OpenClaim.holds_of_wide 6 Try.f6 rfl rfl rfl rfl rfl rfl rfl ⟨rfl, rfl, rfl, rfl, rfl⟩ rfl rfl rfl rfl rfl (by kernel_rfl) Try.func6 (by kernel_rfl)
    (of_decide_eq_true (by kernel_rfl)) (by unfold Func.isWrapper; first | (rw [if_pos (by decide +kernel)]; kernel_rfl) | (rw [if_neg (by decide +kernel)]; exact ⟨rfl, rfl⟩))
    (fun os started H enc _ => fnReceiver_lifted os started H enc)

theorem fnReceiver_holds : Rows.FnReceiverSaid := fnReceiver_over
#print axioms fnReceiver_holds
end Go.Proofs.Ytnmmhbhdcplfmaa
