/- The law FnTakenIn holds: for every argument the program's function answers true and leaves its arguments as they were. Conditions: none beyond the given row's. -/
import Derived.Test.YtnmmhbhdcplfmaaZ3
import Derived.Test.YtnmmhbhdcplfmaaMQ
import Derived.Test.YtnmmhbhdcplfmaaZ3
import Derived.Test.YtnmmhbhdcplfmaaOB
namespace Go.Proofs.Ytnmmhbhdcplfmaa
open Go.RowKit Go.ChangeShapes Go.WideShapes Go.ChangeAt
set_option linter.unusedVariables false
set_option linter.unusedSimpArgs false

set_option maxRecDepth 100000 in
set_option maxHeartbeats 2000000 in
theorem fnTakenIn_walk (code : List Int) (codeV : Value) (w : World) (hl_codeV : Sl w codeV 1 (code.map byteRow)) : Calls Try.prog 3 #[codeV] w fun e w' => e = .returned (.bool true) ∧ Below w.heap.size w w' := by
  obtain ⟨Ac,Cc,hvc⟩ := hl_codeV.form
  rw [List.length_map] at hvc; subst hvc
  have hnc := hl_codeV.len; rw [List.length_map] at hnc
  have hqc := Sl.capLe hl_codeV
  refine x_calls (args := [.slice Ac code.length Cc]) (fn := Try.f3) [slF (.slice Ac code.length Cc) 1 (code.map byteRow)] Try.func3 rfl Try.ntmps3 rfl (by simp only [List.mem_cons,List.not_mem_nil,or_false,forall_eq_or_imp,forall_eq]; exact ⟨rfl,hl_codeV⟩) ?_
  refine xw_seq ?_
  refine xw_region ?_
  refine xl_end [0] ⟨[(0,.v (.slice Ac code.length Cc))],[],[],[slF (.slice Ac code.length Cc) 1 (code.map byteRow)]⟩ (by kernel_rfl) ?_
  refine xw_seq ?_
  refine xw_seq ?_
  refine xw_region ?_
  refine xl_callS 1 [0,9] [(0,.v (.slice Ac code.length Cc)),(9,.v (.slice Ac code.length Cc))] 8 [.slice Ac code.length Cc] (some 10) (by kernel_rfl) rfl (by kernel_rfl) rfl (by kernel_rfl) (xc_b fun ww hf => big_c code Ac Cc ww (hf (slF (.slice Ac code.length Cc) 1 (code.map byteRow)) (by simp))) ?_
  intro _
  refine xl_endS [0,10] [(0,.v (.slice Ac code.length Cc)),(10,.v (.bool (decide (((code.length : Nat) : Int) > 1048576))))] (by kernel_rfl) ?_
  refine xw_cond (b := decide (((code.length : Nat) : Int) > 1048576)) (by kernel_rfl) (fun h1 => ?_) (fun h1 => ?_)
  have h1p : (((code.length : Nat) : Int) > 1048576) := of_decide_eq_true h1
  refine xw_seq ?_
  refine xw_region ?_
  refine xl_endS [2] [(2,.v (.bool true))] (by kernel_rfl) ?_
  refine xw_ret ?_
  exact ⟨[.bool true],by kernel_rfl,fun w' hb hf => ⟨rfl,hb⟩⟩
  have h1p : ¬ (((code.length : Nat) : Int) > 1048576) := of_decide_eq_false h1
  have hbig : code.length ≤ 1048576 := by simp at h1; omega
  refine xw_skip ?_
  refine xw_seq ?_
  refine xw_region ?_
  refine xl_callS 1 [12] [(12,.v (.slice Ac code.length Cc))] 9 [.slice Ac code.length Cc] (some 13) (by kernel_rfl) rfl (by kernel_rfl) rfl (by kernel_rfl) (xc_newF (α := {y : (Rcv × Int) × (Option Addr × Nat) // RB 4 y.1.1}) (F := fun y => .tuple #[.agg #[.int .i64 y.1.1.1.next,.string y.1.1.1.data,.slice y.1.2.1 y.1.1.1.held.length y.1.2.2,.int .i64 y.1.1.1.fin,.bool y.1.1.1.done],.int .i64 y.1.1.2]) (v := fun y => .slice y.1.2.1 y.1.1.1.held.length y.1.2.2) (rs := fun y => y.1.1.1.held.map pceCells) fun ww hw hf => drawTakenIn_c code Ac Cc ww (hf (slF (.slice Ac code.length Cc) 1 (code.map byteRow)) (by simp)) (by omega)) ?_
  rintro ⟨⟨⟨d2a,d2b⟩,d2A,d2C⟩,hd2⟩
  dsimp only at hd2
  have hkn := hd2.kn; have hm := hd2.hm; have hsz := hd2.sz
  have hd1 := hd2.1; have hd2 := hd2.2.2
  refine xl_end [3,4] ⟨[(3,.p 0 0),(4,.v (.int .i64 d2b))],[⟨26,rcvL d2a (.slice d2A d2a.held.length d2C)⟩],[],[newF w.heap.size (.slice d2A d2a.held.length d2C) 2 (d2a.held.map pceCells),slF (.slice Ac code.length Cc) 1 (code.map byteRow)]⟩ (by kernel_rfl) ?_
  refine xw_seq ?_
  refine xw_region ?_
  refine xl_callS 2 [3,4,17,18] [(3,.p 0 0),(4,.v (.int .i64 d2b)),(17,.v (.agg (rcvL d2a (.slice d2A d2a.held.length d2C)).toArray)),(18,.v (.int .i64 d2b))] 10 [.agg (rcvL d2a (.slice d2A d2a.held.length d2C)).toArray,.int .i64 d2b] (some 19) (by kernel_rfl) rfl (by kernel_rfl) rfl (by kernel_rfl) (xc_r fun ww hw hf => yiTakenIn_c d2a (.slice d2A d2a.held.length d2C) d2b ww (hf (newF w.heap.size (.slice d2A d2a.held.length d2C) 2 (d2a.held.map pceCells)) (by simp)).1 (by assumption) (by assumption) (by omega) w.heap.size hw) ?_
  rintro ⟨v3a,v3c⟩
  have htd := takenIn_done (r := d2a) d2b; have htl := takenIn_len (r := d2a) d2b; have hts := takenIn_sz d2a d2b
  have hkn2 : (takenIn d2a d2b).1.held.length ≤ 1048576 := by rw [htd.2.2.2]; exact hkn
  have hm2 : ∀ p ∈ (takenIn d2a d2b).1.held,p.text.size ≤ 1048576 := by rw [htd.2.2.2]; exact hm
  have hsz2 : (takenIn d2a d2b).1.data.size ≤ 4611686018427387904 := by omega
  refine xl_end [3,4,5,6] ⟨[(3,.p 0 0),(4,.v (.int .i64 d2b)),(5,.p 1 0),(6,.v (.string ((takenIn d2a d2b).2)))],[⟨26,rcvL d2a (.slice d2A d2a.held.length d2C)⟩,⟨26,rcvL (takenIn d2a d2b).1 (.slice v3a ((takenIn d2a d2b).1.held.length) v3c)⟩],[],[ownF w.heap.size (.slice v3a ((takenIn d2a d2b).1.held.length) v3c) 2 ((takenIn d2a d2b).1.held.map pceCells),newF w.heap.size (.slice d2A d2a.held.length d2C) 2 (d2a.held.map pceCells),slF (.slice Ac code.length Cc) 1 (code.map byteRow)]⟩ (by kernel_rfl) ?_
  refine xw_seq ?_
  refine xw_region ?_
  refine xl_callS 2 [3,5,6,23,24] [(3,.p 0 0),(5,.p 1 0),(6,.v (.string ((takenIn d2a d2b).2))),(23,.v (.agg (rcvL d2a (.slice d2A d2a.held.length d2C)).toArray)),(24,.v (.int .i64 d2b))] 11 [.agg (rcvL d2a (.slice d2A d2a.held.length d2C)).toArray,.int .i64 d2b] (some 25) (by kernel_rfl) rfl (by kernel_rfl) rfl (by kernel_rfl) (xc_r fun ww hw hf => ysTakenIn_c d2a (.slice d2A d2a.held.length d2C) d2b ww (hf (newF w.heap.size (.slice d2A d2a.held.length d2C) 2 (d2a.held.map pceCells)) (by simp)).1 (by assumption) (by assumption) (by omega) w.heap.size hw) ?_
  rintro ⟨v4a,v4c⟩
  refine xl_end [3,5,6,7,8] ⟨[(3,.p 0 0),(5,.p 1 0),(6,.v (.string ((takenIn d2a d2b).2))),(7,.p 2 0),(8,.v (.string ((takenIn d2a d2b).2)))],[⟨26,rcvL d2a (.slice d2A d2a.held.length d2C)⟩,⟨26,rcvL (takenIn d2a d2b).1 (.slice v3a ((takenIn d2a d2b).1.held.length) v3c)⟩,⟨26,rcvL (takenIn d2a d2b).1 (.slice v4a ((takenIn d2a d2b).1.held.length) v4c)⟩],[],[ownF w.heap.size (.slice v4a ((takenIn d2a d2b).1.held.length) v4c) 2 ((takenIn d2a d2b).1.held.map pceCells),ownF w.heap.size (.slice v3a ((takenIn d2a d2b).1.held.length) v3c) 2 ((takenIn d2a d2b).1.held.map pceCells),newF w.heap.size (.slice d2A d2a.held.length d2C) 2 (d2a.held.map pceCells),slF (.slice Ac code.length Cc) 1 (code.map byteRow)]⟩ (by kernel_rfl) ?_
  refine xw_seq ?_
  refine xw_seq ?_
  refine xw_region ?_
  refine xl_runS 4 [3,5,6,7,31] [(3,.p 0 0),(5,.p 1 0),(6,.v (.string ((takenIn d2a d2b).2))),(7,.p 2 0),(31,.v (.bool (!(((takenIn d2a d2b).2).toList == ((takenIn d2a d2b).2).toList))))] (by kernel_rfl) ?_
  refine xl_split 31 (b := !(((takenIn d2a d2b).2).toList == ((takenIn d2a d2b).2).toList)) (by kernel_rfl) (fun h5 => ?_) (fun h5 => ?_)
  have h5n := not_t h5
  simp at h5n
  have h5n := not_f h5
  have h5np := h5n; simp only [beq_iff_eq,bne_iff_ne,beq_eq_false_iff_ne,bne_eq_false_iff_eq,ne_eq,toList_lit0] at h5np
  refine xl_callS 2 [3,5,6,31,32,33] [(3,.p 0 0),(5,.p 1 0),(6,.v (.string ((takenIn d2a d2b).2))),(31,.v (.bool false)),(32,.v (.agg (rcvL (takenIn d2a d2b).1 (.slice v3a ((takenIn d2a d2b).1.held.length) v3c)).toArray)),(33,.v (.agg (rcvL (takenIn d2a d2b).1 (.slice v4a ((takenIn d2a d2b).1.held.length) v4c)).toArray))] 12 [.agg (rcvL (takenIn d2a d2b).1 (.slice v3a ((takenIn d2a d2b).1.held.length) v3c)).toArray,.agg (rcvL (takenIn d2a d2b).1 (.slice v4a ((takenIn d2a d2b).1.held.length) v4c)).toArray] (some 34) (by kernel_rfl) rfl (by kernel_rfl) rfl (by kernel_rfl) (xc_b fun ww hf => ysSameReceiver_c ((takenIn d2a d2b).1) (.slice v3a ((takenIn d2a d2b).1.held.length) v3c) ((takenIn d2a d2b).1) (.slice v4a ((takenIn d2a d2b).1.held.length) v4c) ww (Own.sl (hf (ownF w.heap.size (.slice v3a ((takenIn d2a d2b).1.held.length) v3c) 2 ((takenIn d2a d2b).1.held.map pceCells)) (by simp))) (Own.sl (hf (ownF w.heap.size (.slice v4a ((takenIn d2a d2b).1.held.length) v4c) 2 ((takenIn d2a d2b).1.held.map pceCells)) (by simp))) ) ?_
  intro _
  refine xl_endS [3,5,6,36] [(3,.p 0 0),(5,.p 1 0),(6,.v (.string ((takenIn d2a d2b).2))),(36,.v (.bool (!(sameReceiver ((takenIn d2a d2b).1) ((takenIn d2a d2b).1)))))] (by kernel_rfl) ?_
  refine xw_cond (b := !(sameReceiver ((takenIn d2a d2b).1) ((takenIn d2a d2b).1))) (by kernel_rfl) (fun h6 => ?_) (fun h6 => ?_)
  have h6n := not_t h6
  exfalso; rw [sameR_self] at h6n; cases h6n
  have h6n := not_f h6
  refine xw_skip ?_
  refine xw_seq ?_
  refine xw_seq ?_
  refine xw_region ?_
  refine xl_callS 1 [3,5,6,37] [(3,.p 0 0),(5,.p 1 0),(6,.v (.string ((takenIn d2a d2b).2))),(37,.v (.agg (rcvL d2a (.slice d2A d2a.held.length d2C)).toArray))] 13 [.agg (rcvL d2a (.slice d2A d2a.held.length d2C)).toArray] (some 38) (by kernel_rfl) rfl (by kernel_rfl) rfl (by kernel_rfl) (xc_b fun ww hf => ysReceiverOk_c d2a (.slice d2A d2a.held.length d2C) ww (hf (newF w.heap.size (.slice d2A d2a.held.length d2C) 2 (d2a.held.map pceCells)) (by simp)).1 (by assumption) (by omega)) ?_
  intro _
  refine xl_endS [3,5,6,39] [(3,.p 0 0),(5,.p 1 0),(6,.v (.string ((takenIn d2a d2b).2))),(39,.v (.bool (!(receiverOk d2a))))] (by kernel_rfl) ?_
  refine xw_cond (b := !(receiverOk d2a)) (by kernel_rfl) (fun h7 => ?_) (fun h7 => ?_)
  have h7n := not_t h7
  have hno := h7n
  refine xw_seq ?_
  refine xw_region ?_
  refine xl_runS 3 [3,5,42] [(3,.p 0 0),(5,.p 1 0),(42,.v (.bool (((takenIn d2a d2b).2).toList == (⟨#[]⟩ : ByteArray).toList)))] (by kernel_rfl) ?_
  refine xl_split 42 (b := ((takenIn d2a d2b).2).toList == (⟨#[]⟩ : ByteArray).toList) (by kernel_rfl) (fun h8 => ?_) (fun h8 => ?_)
  have h8p := h8; simp only [beq_iff_eq,bne_iff_ne,beq_eq_false_iff_ne,bne_eq_false_iff_eq,ne_eq,toList_lit0] at h8p
  refine xl_callS 2 [42,43,44] [(42,.v (.bool true)),(43,.v (.agg (rcvL (takenIn d2a d2b).1 (.slice v3a ((takenIn d2a d2b).1.held.length) v3c)).toArray)),(44,.v (.agg (rcvL d2a (.slice d2A d2a.held.length d2C)).toArray))] 12 [.agg (rcvL (takenIn d2a d2b).1 (.slice v3a ((takenIn d2a d2b).1.held.length) v3c)).toArray,.agg (rcvL d2a (.slice d2A d2a.held.length d2C)).toArray] (some 45) (by kernel_rfl) rfl (by kernel_rfl) rfl (by kernel_rfl) (xc_b fun ww hf => ysSameReceiver_c ((takenIn d2a d2b).1) (.slice v3a ((takenIn d2a d2b).1.held.length) v3c) d2a (.slice d2A d2a.held.length d2C) ww (Own.sl (hf (ownF w.heap.size (.slice v3a ((takenIn d2a d2b).1.held.length) v3c) 2 ((takenIn d2a d2b).1.held.map pceCells)) (by simp))) (hf (newF w.heap.size (.slice d2A d2a.held.length d2C) 2 (d2a.held.map pceCells)) (by simp)).1 ) ?_
  intro _
  refine xl_endS [2] [(2,.v (.bool (sameReceiver ((takenIn d2a d2b).1) d2a)))] (by kernel_rfl) ?_
  refine xw_ret ?_
  exact ⟨[.bool (sameReceiver ((takenIn d2a d2b).1) d2a)],by kernel_rfl,fun w' hb hf => ⟨ret_bool (show (sameReceiver ((takenIn d2a d2b).1) d2a : Bool) = true from by first | (rw [takenIn_no _ hno]; exact sameR_self _) | (rw [htd.2.1]; exact beq_self_eq_true _)),hb⟩⟩
  have h8p := h8; simp only [beq_iff_eq,bne_iff_ne,beq_eq_false_iff_ne,bne_eq_false_iff_eq,ne_eq,toList_lit0] at h8p
  exfalso; rw [takenIn_no d2b hno] at h8; simp at h8
  have h7n := not_f h7
  have hok := h7n
  refine xw_skip ?_
  refine xw_seq ?_
  refine xw_join ⟨[(2,.v (.bool (((takenIn d2a d2b).1.next) == d2a.next)))],[⟨26,rcvL d2a (.slice d2A d2a.held.length d2C)⟩,⟨26,rcvL (takenIn d2a d2b).1 (.slice v3a ((takenIn d2a d2b).1.held.length) v3c)⟩,⟨26,rcvL (takenIn d2a d2b).1 (.slice v4a ((takenIn d2a d2b).1.held.length) v4c)⟩],[],[ownF w.heap.size (.slice v4a ((takenIn d2a d2b).1.held.length) v4c) 2 ((takenIn d2a d2b).1.held.map pceCells),ownF w.heap.size (.slice v3a ((takenIn d2a d2b).1.held.length) v3c) 2 ((takenIn d2a d2b).1.held.map pceCells),newF w.heap.size (.slice d2A d2a.held.length d2C) 2 (d2a.held.map pceCells),slF (.slice Ac code.length Cc) 1 (code.map byteRow)]⟩ ?_ ?_
  refine xe_region [] (by kernel_rfl) (fun ρ σ => ?_)
  refine xe_tkS [0,1,2,4,5] [52,49,47,3,5,6] 28 [(52,.v (.string d2a.data)),(49,.v (.string ((takenIn d2a d2b).1.data))),(47,.v (.string ((takenIn d2a d2b).2))),(3,.p 0 0),(5,.p 1 0),(6,.v (.string ((takenIn d2a d2b).2)))] (fun _ _ h => h) rfl (by kernel_rfl) ?_
  refine xe_op 3 (.string (((takenIn d2a d2b).2) ++ ((takenIn d2a d2b).1.data))) _ rfl (by kernel_rfl) (by kernel_rfl) (by kernel_rfl) (fun _ _ h => h) (by kernel_rfl) rfl (fun _ _ ww hA => act_bin hA rfl (by kernel_rfl) (by kernel_rfl) (str_add (by first | omega | (simp only [ByteArray.size_extract]; omega)) ww)) rfl ?_
  refine xe_tkS [6,7] [54,3,5,6] 25 [(54,.v (.bool ((((takenIn d2a d2b).2) ++ ((takenIn d2a d2b).1.data)).toList == d2a.data.toList))),(3,.p 0 0),(5,.p 1 0),(6,.v (.string ((takenIn d2a d2b).2)))] (fun _ _ h => h) rfl (by kernel_rfl) ?_
  refine xe_split 54 (b := (((takenIn d2a d2b).2) ++ ((takenIn d2a d2b).1.data)).toList == d2a.data.toList) (by kernel_rfl) (fun h9 => ?_) (fun h9 => ?_)
  have h9p := h9; simp only [beq_iff_eq,bne_iff_ne,beq_eq_false_iff_ne,bne_eq_false_iff_eq,ne_eq,toList_lit0] at h9p
  refine xe_tkS [8] [55,54,3,5,6] 24 [(55,.v (.agg (rcvL (takenIn d2a d2b).1 (.slice v3a ((takenIn d2a d2b).1.held.length) v3c)).toArray)),(54,.v (.bool true)),(3,.p 0 0),(5,.p 1 0),(6,.v (.string ((takenIn d2a d2b).2)))] (fun _ _ h => h) rfl (by kernel_rfl) ?_
  refine xe_all [9] (by kernel_rfl) (by simp) ?_
  refine xs_call 9 14 [.agg (rcvL (takenIn d2a d2b).1 (.slice v3a ((takenIn d2a d2b).1.held.length) v3c)).toArray] (some 56) rfl (by kernel_rfl) rfl (by kernel_rfl) (xc_b fun ww hf => yiReceiverOk_c ((takenIn d2a d2b).1) (.slice v3a ((takenIn d2a d2b).1.held.length) v3c) ww (Own.sl (hf (ownF w.heap.size (.slice v3a ((takenIn d2a d2b).1.held.length) v3c) 2 ((takenIn d2a d2b).1.held.map pceCells)) (by simp))) (by assumption) (by omega)) ?_
  intro _
  refine xe_tkS [10,11] [58,3,5,6] 21 [(58,.v (.bool (receiverOk ((takenIn d2a d2b).1)))),(3,.p 0 0),(5,.p 1 0),(6,.v (.string ((takenIn d2a d2b).2)))] (fun _ _ h => h) rfl (by kernel_rfl) ?_
  refine xe_split 58 (b := receiverOk ((takenIn d2a d2b).1)) (by kernel_rfl) (fun h10 => ?_) (fun h10 => ?_)
  refine xe_tkS [12,13,14] [61,58,3,5,6] 18 [(61,.v (.bool d2a.done)),(58,.v (.bool true)),(3,.p 0 0),(5,.p 1 0),(6,.v (.string ((takenIn d2a d2b).2)))] (fun _ _ h => h) rfl (by kernel_rfl) ?_
  refine xe_split 61 (b := d2a.done) (by kernel_rfl) (fun h11 => ?_) (fun h11 => ?_)
  refine xe_tkS [15,16,17,18,19,20,21,22,23,24,25,26,27,28,29,30,31,32] [2] 0 [(2,.v (.bool (((takenIn d2a d2b).1.next) == d2a.next)))] (fun _ _ h => h) rfl (by kernel_rfl) ?_
  refine xe_done (by kernel_rfl) ?_
  exact wk_forget 3 0 [2] (by kernel_rfl) (by kernel_rfl) (by kernel_rfl)
  refine xe_tkS [15,17,19,20] [67,64,62,61,58,3,5] 14 [(67,.v (.int .i64 (((takenIn d2a d2b).2).size : Int))),(64,.v (.agg (rcvL d2a (.slice d2A d2a.held.length d2C)).toArray)),(62,.v (.agg (rcvL (takenIn d2a d2b).1 (.slice v3a ((takenIn d2a d2b).1.held.length) v3c)).toArray)),(61,.v (.bool false)),(58,.v (.bool true)),(3,.p 0 0),(5,.p 1 0)] (fun _ _ h => h) rfl (by kernel_rfl) ?_
  refine xe_all [16] (by kernel_rfl) (by simp) ?_
  refine xs_call 16 15 [.agg (rcvL (takenIn d2a d2b).1 (.slice v3a ((takenIn d2a d2b).1.held.length) v3c)).toArray] (some 63) rfl (by kernel_rfl) rfl (by kernel_rfl) (xc_b fun ww hf => iWindowOf_c ((takenIn d2a d2b).1.next) ((takenIn d2a d2b).1.data) ((takenIn d2a d2b).1.held) (.slice v3a ((takenIn d2a d2b).1.held.length) v3c) ((takenIn d2a d2b).1.fin) ((takenIn d2a d2b).1.done) ww (by omega)) ?_
  intro _
  refine xe_all [18] (by kernel_rfl) (by simp) ?_
  refine xs_call 18 15 [.agg (rcvL d2a (.slice d2A d2a.held.length d2C)).toArray] (some 65) rfl (by kernel_rfl) rfl (by kernel_rfl) (xc_b fun ww hf => iWindowOf_c d2a.next d2a.data d2a.held (.slice d2A d2a.held.length d2C) d2a.fin d2a.done ww (by omega)) ?_
  intro _
  refine xe_tkS [21,22,23,24,25] [72,3,5] 7 [(72,.v (.bool ((windowOf ((takenIn d2a d2b).1)) == (IntKind.i64.wrap ((windowOf d2a) + (((takenIn d2a d2b).2).size : Int)))))),(3,.p 0 0),(5,.p 1 0)] (fun _ _ h => h) rfl (by kernel_rfl) ?_
  refine xe_split 72 (b := (windowOf ((takenIn d2a d2b).1)) == (IntKind.i64.wrap ((windowOf d2a) + (((takenIn d2a d2b).2).size : Int)))) (by kernel_rfl) (fun h12 => ?_) (fun h12 => ?_)
  have h12p := eqT h12
  refine xe_tkS [26,27,28,29,30,31,32] [2] 0 [(2,.v (.bool (((takenIn d2a d2b).1.next) == d2a.next)))] (fun _ _ h => h) rfl (by kernel_rfl) ?_
  refine xe_done (by kernel_rfl) ?_
  exact wk_forget 3 0 [2] (by kernel_rfl) (by kernel_rfl) (by kernel_rfl)
  have h12p := eqF h12
  exfalso; have ew := takenIn_win d2b hok (by assumption); have hw := windowOf_bd d2a; rw [wrap_id (by omega) (by omega),ew] at h12; simp at h12
  exfalso; rw [takenIn_ok d2b hok] at h10; cases h10
  have h9p := h9; simp only [beq_iff_eq,bne_iff_ne,beq_eq_false_iff_ne,bne_eq_false_iff_eq,ne_eq,toList_lit0] at h9p
  exfalso; rw [takenIn_cat d2b hok] at h9; simp at h9
  refine xw_ret ?_
  exact ⟨[.bool (((takenIn d2a d2b).1.next) == d2a.next)],by kernel_rfl,fun w' hb hf => ⟨ret_bool (show (((takenIn d2a d2b).1.next) == d2a.next : Bool) = true from by first | (rw [takenIn_no _ hno]; exact sameR_self _) | (rw [htd.2.1]; exact beq_self_eq_true _)),hb⟩⟩

set_option maxRecDepth 100000 in
theorem fnTakenIn_lifted (os : Os) (started : os.Started) (H : Type) (enc : TypeId × Value → H) :
    ReturnsInHanded {} Try.checked os 3 .any (Rows.fnTakenInSpec.pre6 enc Try.prog Try.f3 Rows.fnTakenInRow.domain false) (Rows.fnTakenInSpec.post enc Try.prog Try.f3 false true false false) := by
  refine returnsInHanded_of_change (C := Try.checked) Try.ownK started (by kernel_rfl) Try.func3
    (ChangeSpec.witness6 (enc := enc) (C := Try.checked) false ⟨#[], #[.slice none 0 0], []⟩ 8 (by kernel_rfl) (by kernel_rfl) (by kernel_rfl) (by kernel_rfl)) ?_
  intro W base args ds gs before hval0 hW hcnd _
  have hval : ∀ (j : Nat) t v, Try.f3.params[j]? = some t → args[j]? = some v → Value.okWide Try.prog W .any base t v := hval0
  have hW' := hW
  obtain ⟨p, q, hA0, hV, rfl, hfz, hnd⟩ := hW
  have hA : DataW.TrodAll enc Try.prog W 0 (fun _ => true) true Try.f3.params.toList args.toList ds p := hA0
  rw [Try.params3] at hA hval
  obtain ⟨v0, vs0, d0, ds0, p0, q0, hargs, rfl, rfl, h0, r0⟩ := trodAll_cons hA
  obtain ⟨rfl, rfl, rfl⟩ := trodAll_nil r0
  obtain rfl : args = #[v0] := by cases args; simp_all
  obtain ⟨rfl, rfl⟩ := trodVars_none hV
  clear hA0 hval0
  have g0 := h0
  obtain ⟨l0, L0⟩ := openS_byte (hval 0 _ v0 rfl rfl) g0
  refine (fnTakenIn_walk l0 v0 W L0).mono fun e W' ⟨he, hb⟩ => ?_
  subst he
  have hlt : ∀ x ∈ (p0 ++ ([])) ++ [], x.block < W.heap.size := fun x hx => hW'.lt x hx
  refine ⟨_, rfl, post_of_below (pa := (p0 ++ ([]))) (pv := []) hW' (fun _ _ _ => trodAll_cons_mk (shut_bool Try.underlying4 _) trodAll_mk0) (fun sp hsp => trodAll_cons_mk (WideElems.Trod_stays Try.laidOut (by kernel_rfl) (of_decide_eq_true (by kernel_rfl)) h0 (fun x hx => hb.same (hlt x (List.mem_append_left _ (List.mem_append_left _ hx)))) (fun x hx => hsp x (List.mem_append_left _ (List.mem_append_left _ hx)))) (trodAll_mk0)) (fun _ _ => rfl) rfl hb (ok_one (by kernel_rfl) rfl (okWide_bool_mk Try.underlying4 _))⟩

theorem fnTakenIn_over : Rows.fnTakenInRow.holds Try.pinned (OpenSpec.ofChange Rows.fnTakenInSpec) :=
  OpenClaim.holds_of_wide 3 Try.f3 rfl rfl rfl rfl rfl rfl rfl ⟨rfl, rfl, rfl, rfl, rfl⟩ rfl rfl rfl rfl rfl (by kernel_rfl) Try.func3 (by kernel_rfl)
    (of_decide_eq_true (by kernel_rfl)) (by unfold Func.isWrapper; first | (rw [if_pos (by decide +kernel)]; kernel_rfl) | (rw [if_neg (by decide +kernel)]; exact ⟨rfl, rfl⟩))
    (fun os started H enc _ => fnTakenIn_lifted os started H enc)

theorem fnTakenIn_holds : Rows.FnTakenInSaid := fnTakenIn_over
#print axioms fnTakenIn_holds
end Go.Proofs.Ytnmmhbhdcplfmaa
