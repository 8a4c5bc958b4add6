/- The law FnHalves holds: for every argument the program's function answers true and leaves its arguments as they were. Conditions: none beyond the given row's. -/
import Derived.Test.YtcoppgllfipbeaaZ2
import Derived.Test.YtcoppgllfipbeaaOB
namespace Go.Proofs.Ytcoppgllfipbeaa
open Go.RowKit Go.ChangeShapes Go.WideShapes Go.ChangeAt
set_option linter.unusedVariables false
set_option linter.unusedSimpArgs false

set_option maxRecDepth 100000 in
set_option maxHeartbeats 2000000 in
theorem fnHalves_walk (code : List Int) (codeV : Value) (w : World) (hl_codeV : Sl w codeV 1 (code.map byteRow)) : Calls Try.prog 6 #[codeV] w fun e w' => e = .returned (.bool true) ∧ Below w.heap.size w w' := by
  obtain ⟨Ac,Cc,hvc⟩ := hl_codeV.form
  rw [List.length_map] at hvc; subst hvc
  have hnc := hl_codeV.len; rw [List.length_map] at hnc
  have hqc := Sl.capLe hl_codeV
  refine x_calls (args := [.slice Ac code.length Cc]) (fn := Try.f6) [slF (.slice Ac code.length Cc) 1 (code.map byteRow)] Try.func6 rfl Try.ntmps6 rfl (by simp only [List.mem_cons,List.not_mem_nil,or_false,forall_eq_or_imp,forall_eq]; exact ⟨rfl,hl_codeV⟩) ?_
  refine xw_seq ?_
  refine xw_region ?_
  refine xl_end [0] ⟨[(0,.v (.slice Ac code.length Cc))],[],[],[slF (.slice Ac code.length Cc) 1 (code.map byteRow)]⟩ (by kernel_rfl) ?_
  refine xw_seq ?_
  refine xw_seq ?_
  refine xw_region ?_
  refine xl_callS 1 [0,12] [(0,.v (.slice Ac code.length Cc)),(12,.v (.slice Ac code.length Cc))] 7 [.slice Ac code.length Cc] (some 13) (by kernel_rfl) rfl (by kernel_rfl) rfl (by kernel_rfl) (xc_b fun ww hf => big_c code Ac Cc ww (hf (slF (.slice Ac code.length Cc) 1 (code.map byteRow)) (by simp))) ?_
  intro _
  refine xl_endS [0,13] [(0,.v (.slice Ac code.length Cc)),(13,.v (.bool (decide (((code.length : Nat) : Int) > 1048576))))] (by kernel_rfl) ?_
  refine xw_cond (b := decide (((code.length : Nat) : Int) > 1048576)) (by kernel_rfl) (fun h1 => ?_) (fun h1 => ?_)
  have h1p : (((code.length : Nat) : Int) > 1048576) := of_decide_eq_true h1
  refine xw_seq ?_
  refine xw_region ?_
  refine xl_endS [2] [(2,.v (.bool true))] (by kernel_rfl) ?_
  refine xw_ret ?_
  exact ⟨[.bool true],by kernel_rfl,fun w' hb hf => ⟨rfl,hb⟩⟩
  have h1p : ¬ (((code.length : Nat) : Int) > 1048576) := of_decide_eq_false h1
  have hbig : code.length ≤ 1048576 := by simp at h1; omega
  refine xw_skip ?_
  refine xw_seq ?_
  refine xw_region ?_
  refine xl_callS 1 [15] [(15,.v (.slice Ac code.length Cc))] 27 [.slice Ac code.length Cc] (some 16) (by kernel_rfl) rfl (by kernel_rfl) rfl (by kernel_rfl) (xc_row (α := {y : List Hlf × (Option Addr × Nat) × Hlf × Int // y.1.length ≤ 6}) (F := fun y => .tuple #[.slice y.1.2.1.1 y.1.1.length y.1.2.1.2,.agg (hlfL y.1.2.2.1).toArray,.int .i64 y.1.2.2.2]) (v := fun y => .slice y.1.2.1.1 y.1.1.length y.1.2.1.2) (rs := fun y => y.1.1.map hlfCells) fun ww hw hf => drawPutHalf_c code Ac Cc ww (hf (slF (.slice Ac code.length Cc) 1 (code.map byteRow)) (by simp)) (by omega)) ?_
  rintro ⟨⟨d2l,⟨d2a,d2c⟩,d2h,d2m⟩,hd2⟩
  dsimp only at hd2
  have hdk : d2l.length ≤ 1048576 := by omega
  refine xl_end [3,4,5] ⟨[(3,.v (.slice d2a d2l.length d2c)),(4,.p 0 0),(5,.v (.int .i64 d2m))],[⟨56,hlfL d2h⟩],[],[rowF w.heap.size 56 13 (.slice d2a d2l.length d2c) (d2l.map hlfCells),slF (.slice Ac code.length Cc) 1 (code.map byteRow)]⟩ (by kernel_rfl) ?_
  refine xw_seq ?_
  refine xw_region ?_
  refine xl_callS 3 [3,4,5,21,22,23] [(3,.v (.slice d2a d2l.length d2c)),(4,.p 0 0),(5,.v (.int .i64 d2m)),(21,.v (.slice d2a d2l.length d2c)),(22,.v (.agg (hlfL d2h).toArray)),(23,.v (.int .i64 d2m))] 28 [.slice d2a d2l.length d2c,.agg (hlfL d2h).toArray,.int .i64 d2m] (some 24) (by kernel_rfl) rfl (by kernel_rfl) rfl (by kernel_rfl) (xc_r fun ww hw hf => yiPutHalf_c d2l (.slice d2a d2l.length d2c) d2h d2m ww (rowF_sl (hf (rowF w.heap.size 56 13 (.slice d2a d2l.length d2c) (d2l.map hlfCells)) (by simp))) (by assumption) w.heap.size hw) ?_
  rintro ⟨v3a,v3c⟩
  have hbd4 : (putHalf d2l d2h d2m).1.length ≤ 1048576 := putHalf_bd _ _ _  (by omega)
  refine xl_endS [3,4,5,6,7] [(3,.v (.slice d2a d2l.length d2c)),(4,.p 0 0),(5,.v (.int .i64 d2m)),(6,.v (.slice v3a ((putHalf d2l d2h d2m).1.length) v3c)),(7,.v (.bool ((putHalf d2l d2h d2m).2)))] (by kernel_rfl) ?_
  refine xw_seq ?_
  refine xw_region ?_
  refine xl_callS 3 [3,4,5,6,7,28,29,30] [(3,.v (.slice d2a d2l.length d2c)),(4,.p 0 0),(5,.v (.int .i64 d2m)),(6,.v (.slice v3a ((putHalf d2l d2h d2m).1.length) v3c)),(7,.v (.bool ((putHalf d2l d2h d2m).2))),(28,.v (.slice d2a d2l.length d2c)),(29,.v (.agg (hlfL d2h).toArray)),(30,.v (.int .i64 d2m))] 29 [.slice d2a d2l.length d2c,.agg (hlfL d2h).toArray,.int .i64 d2m] (some 31) (by kernel_rfl) rfl (by kernel_rfl) rfl (by kernel_rfl) (xc_r fun ww hw hf => ysPutHalf_c d2l (.slice d2a d2l.length d2c) d2h d2m ww (rowF_sl (hf (rowF w.heap.size 56 13 (.slice d2a d2l.length d2c) (d2l.map hlfCells)) (by simp))) (by assumption) w.heap.size hw) ?_
  rintro ⟨v5a,v5c⟩
  have hbd6 : (putHalf d2l d2h d2m).1.length ≤ 1048576 := putHalf_bd _ _ _  (by omega)
  refine xl_endS [3,4,5,6,7,8,9] [(3,.v (.slice d2a d2l.length d2c)),(4,.p 0 0),(5,.v (.int .i64 d2m)),(6,.v (.slice v3a ((putHalf d2l d2h d2m).1.length) v3c)),(7,.v (.bool ((putHalf d2l d2h d2m).2))),(8,.v (.slice v5a ((putHalf d2l d2h d2m).1.length) v5c)),(9,.v (.bool ((putHalf d2l d2h d2m).2)))] (by kernel_rfl) ?_
  refine xw_seq ?_
  refine xw_seq ?_
  refine xw_region ?_
  refine xl_runS 4 [3,4,5,6,7,8,37] [(3,.v (.slice d2a d2l.length d2c)),(4,.p 0 0),(5,.v (.int .i64 d2m)),(6,.v (.slice v3a ((putHalf d2l d2h d2m).1.length) v3c)),(7,.v (.bool ((putHalf d2l d2h d2m).2))),(8,.v (.slice v5a ((putHalf d2l d2h d2m).1.length) v5c)),(37,.v (.bool (!(((putHalf d2l d2h d2m).2) == ((putHalf d2l d2h d2m).2)))))] (by kernel_rfl) ?_
  refine xl_split 37 (b := !(((putHalf d2l d2h d2m).2) == ((putHalf d2l d2h d2m).2))) (by kernel_rfl) (fun h7 => ?_) (fun h7 => ?_)
  have h7n := not_t h7
  simp at h7n
  have h7n := not_f h7
  have h7np := eqT h7n
  refine xl_callS 2 [3,4,5,6,7,8,37,38,39] [(3,.v (.slice d2a d2l.length d2c)),(4,.p 0 0),(5,.v (.int .i64 d2m)),(6,.v (.slice v3a ((putHalf d2l d2h d2m).1.length) v3c)),(7,.v (.bool ((putHalf d2l d2h d2m).2))),(8,.v (.slice v5a ((putHalf d2l d2h d2m).1.length) v5c)),(37,.v (.bool false)),(38,.v (.slice v3a ((putHalf d2l d2h d2m).1.length) v3c)),(39,.v (.slice v5a ((putHalf d2l d2h d2m).1.length) v5c))] 30 [.slice v3a ((putHalf d2l d2h d2m).1.length) v3c,.slice v5a ((putHalf d2l d2h d2m).1.length) v5c] (some 40) (by kernel_rfl) rfl (by kernel_rfl) rfl (by kernel_rfl) (xc_b fun ww hf => sSameHalves_c (.slice v3a ((putHalf d2l d2h d2m).1.length) v3c) (.slice v5a ((putHalf d2l d2h d2m).1.length) v5c) ((putHalf d2l d2h d2m).1) ((putHalf d2l d2h d2m).1) ww (Own.sl (hf (ownF w.heap.size (.slice v3a ((putHalf d2l d2h d2m).1.length) v3c) 13 ((putHalf d2l d2h d2m).1.map hlfCells)) (by simp))) (Own.sl (hf (ownF w.heap.size (.slice v5a ((putHalf d2l d2h d2m).1.length) v5c) 13 ((putHalf d2l d2h d2m).1.map hlfCells)) (by simp)))) ?_
  intro _
  refine xl_runS 3 [3,4,5,6,7,8,43] [(3,.v (.slice d2a d2l.length d2c)),(4,.p 0 0),(5,.v (.int .i64 d2m)),(6,.v (.slice v3a ((putHalf d2l d2h d2m).1.length) v3c)),(7,.v (.bool ((putHalf d2l d2h d2m).2))),(8,.v (.slice v5a ((putHalf d2l d2h d2m).1.length) v5c)),(43,.v (.bool (!(sameL hlfEq ((putHalf d2l d2h d2m).1) ((putHalf d2l d2h d2m).1)))))] (by kernel_rfl) ?_
  refine xl_split 43 (b := !(sameL hlfEq ((putHalf d2l d2h d2m).1) ((putHalf d2l d2h d2m).1))) (by kernel_rfl) (fun h8 => ?_) (fun h8 => ?_)
  have h8n := not_t h8
  exfalso; rw [sameH_self] at h8n; cases h8n
  have h8n := not_f h8
  refine xl_callS 1 [3,4,5,6,7,8,43,44] [(3,.v (.slice d2a d2l.length d2c)),(4,.p 0 0),(5,.v (.int .i64 d2m)),(6,.v (.slice v3a ((putHalf d2l d2h d2m).1.length) v3c)),(7,.v (.bool ((putHalf d2l d2h d2m).2))),(8,.v (.slice v5a ((putHalf d2l d2h d2m).1.length) v5c)),(43,.v (.bool false)),(44,.v (.slice d2a d2l.length d2c))] 31 [.slice d2a d2l.length d2c] (some 45) (by kernel_rfl) rfl (by kernel_rfl) rfl (by kernel_rfl) (xc_b fun ww hf => yiHalvesOk_c d2l (.slice d2a d2l.length d2c) ww (rowF_sl (hf (rowF w.heap.size 56 13 (.slice d2a d2l.length d2c) (d2l.map hlfCells)) (by simp))) ) ?_
  intro _
  refine xl_callS 1 [3,4,5,6,7,8,43,45,46] [(3,.v (.slice d2a d2l.length d2c)),(4,.p 0 0),(5,.v (.int .i64 d2m)),(6,.v (.slice v3a ((putHalf d2l d2h d2m).1.length) v3c)),(7,.v (.bool ((putHalf d2l d2h d2m).2))),(8,.v (.slice v5a ((putHalf d2l d2h d2m).1.length) v5c)),(43,.v (.bool false)),(45,.v (.bool (halvesOk d2l))),(46,.v (.slice d2a d2l.length d2c))] 32 [.slice d2a d2l.length d2c] (some 47) (by kernel_rfl) rfl (by kernel_rfl) rfl (by kernel_rfl) (xc_b fun ww hf => ysHalvesOk_c d2l (.slice d2a d2l.length d2c) ww (rowF_sl (hf (rowF w.heap.size 56 13 (.slice d2a d2l.length d2c) (d2l.map hlfCells)) (by simp))) ) ?_
  intro _
  refine xl_endS [3,4,5,6,7,8,49] [(3,.v (.slice d2a d2l.length d2c)),(4,.p 0 0),(5,.v (.int .i64 d2m)),(6,.v (.slice v3a ((putHalf d2l d2h d2m).1.length) v3c)),(7,.v (.bool ((putHalf d2l d2h d2m).2))),(8,.v (.slice v5a ((putHalf d2l d2h d2m).1.length) v5c)),(49,.v (.bool (!((halvesOk d2l) == (halvesOk d2l)))))] (by kernel_rfl) ?_
  refine xw_cond (b := !((halvesOk d2l) == (halvesOk d2l))) (by kernel_rfl) (fun h9 => ?_) (fun h9 => ?_)
  have h9n := not_t h9
  simp at h9n
  have h9n := not_f h9
  have h9np := eqT h9n
  refine xw_skip ?_
  refine xw_seq ?_
  refine xw_seq ?_
  refine xw_region ?_
  refine xl_endS [3,4,5,6,8,51] [(3,.v (.slice d2a d2l.length d2c)),(4,.p 0 0),(5,.v (.int .i64 d2m)),(6,.v (.slice v3a ((putHalf d2l d2h d2m).1.length) v3c)),(8,.v (.slice v5a ((putHalf d2l d2h d2m).1.length) v5c)),(51,.v (.bool (!((putHalf d2l d2h d2m).2))))] (by kernel_rfl) ?_
  refine xw_cond (b := !((putHalf d2l d2h d2m).2)) (by kernel_rfl) (fun h10 => ?_) (fun h10 => ?_)
  have hno := not_t h10
  refine xw_seq ?_
  refine xw_region ?_
  refine xl_callS 2 [52,53] [(52,.v (.slice v3a ((putHalf d2l d2h d2m).1.length) v3c)),(53,.v (.slice d2a d2l.length d2c))] 30 [.slice v3a ((putHalf d2l d2h d2m).1.length) v3c,.slice d2a d2l.length d2c] (some 54) (by kernel_rfl) rfl (by kernel_rfl) rfl (by kernel_rfl) (xc_b fun ww hf => sSameHalves_c (.slice v3a ((putHalf d2l d2h d2m).1.length) v3c) (.slice d2a d2l.length d2c) ((putHalf d2l d2h d2m).1) d2l ww (Own.sl (hf (ownF w.heap.size (.slice v3a ((putHalf d2l d2h d2m).1.length) v3c) 13 ((putHalf d2l d2h d2m).1.map hlfCells)) (by simp))) (rowF_sl (hf (rowF w.heap.size 56 13 (.slice d2a d2l.length d2c) (d2l.map hlfCells)) (by simp)))) ?_
  intro _
  refine xl_endS [2] [(2,.v (.bool (sameL hlfEq ((putHalf d2l d2h d2m).1) d2l)))] (by kernel_rfl) ?_
  refine xw_ret ?_
  exact ⟨[.bool (sameL hlfEq ((putHalf d2l d2h d2m).1) d2l)],by kernel_rfl,fun w' hb hf => ⟨ret_bool (show (sameL hlfEq ((putHalf d2l d2h d2m).1) d2l : Bool) = true from by first | (rw [put_no hno]; exact sameH_self _) | (simp [hnil])),hb⟩⟩
  have hyes := not_f h10
  obtain ⟨hp1,hp2,hp3⟩ := put_yes hyes
  refine xw_skip ?_
  refine xw_seq ?_
  refine xw_region ?_
  refine xl_callS 3 [3,4,5,6,8,55,57] [(3,.v (.slice d2a d2l.length d2c)),(4,.p 0 0),(5,.v (.int .i64 d2m)),(6,.v (.slice v3a ((putHalf d2l d2h d2m).1.length) v3c)),(8,.v (.slice v5a ((putHalf d2l d2h d2m).1.length) v5c)),(55,.v (.slice v3a ((putHalf d2l d2h d2m).1.length) v3c)),(57,.v (.agg (tupL d2h.t).toArray))] 33 [.slice v3a ((putHalf d2l d2h d2m).1.length) v3c,.agg (tupL d2h.t).toArray] (some 58) (by kernel_rfl) rfl (by kernel_rfl) rfl (by kernel_rfl) (xc_r fun ww hw hf => yiDropHalf_c ((putHalf d2l d2h d2m).1) (.slice v3a ((putHalf d2l d2h d2m).1.length) v3c) d2h.t ww (Own.sl (hf (ownF w.heap.size (.slice v3a ((putHalf d2l d2h d2m).1.length) v3c) 13 ((putHalf d2l d2h d2m).1.map hlfCells)) (by simp))) (by assumption) w.heap.size hw) ?_
  rintro ⟨v11a,v11c⟩
  have hbd12 : (dropHalf ((putHalf d2l d2h d2m).1) d2h.t).length ≤ 1048576 := dropHalf_bd _ _  (by omega)
  refine xl_endS [3,4,5,6,8,10] [(3,.v (.slice d2a d2l.length d2c)),(4,.p 0 0),(5,.v (.int .i64 d2m)),(6,.v (.slice v3a ((putHalf d2l d2h d2m).1.length) v3c)),(8,.v (.slice v5a ((putHalf d2l d2h d2m).1.length) v5c)),(10,.v (.slice v11a ((dropHalf ((putHalf d2l d2h d2m).1) d2h.t).length) v11c))] (by kernel_rfl) ?_
  refine xw_seq ?_
  refine xw_seq ?_
  refine xw_region ?_
  refine xl_endS [3,4,5,6,8,10,11] [(3,.v (.slice d2a d2l.length d2c)),(4,.p 0 0),(5,.v (.int .i64 d2m)),(6,.v (.slice v3a ((putHalf d2l d2h d2m).1.length) v3c)),(8,.v (.slice v5a ((putHalf d2l d2h d2m).1.length) v5c)),(10,.v (.slice v11a ((dropHalf ((putHalf d2l d2h d2m).1) d2h.t).length) v11c)),(11,.v (.int .i64 0))] (by kernel_rfl) ?_
  refine xw_block ?_
  refine xw_loopW (α := {x : Nat × List Hlf × Option Addr × Nat // (fun (i : Nat) (L : List Hlf) (A1 : Option Addr) (c1 : Nat) => i ≤ 7 ∧ (∀ x ∈ L,(i : Int) ≤ x.age ∧ x.age ≤ 6) ∧ L.length ≤ 1048576) x.1 x.2.1 x.2.2.1 x.2.2.2}) (fun x => (fun (i : Nat) (L : List Hlf) (A1 : Option Addr) (c1 : Nat) => (⟨[(3,.v (.slice d2a d2l.length d2c)),(4,.p 0 0),(5,.v (.int .i64 d2m)),(6,.v (.slice A1 L.length c1)),(8,.v (.slice v5a ((putHalf d2l d2h d2m).1.length) v5c)),(10,.v (.slice v11a ((dropHalf ((putHalf d2l d2h d2m).1) d2h.t).length) v11c)),(11,.v (.int .i64 (i : Int)))],[⟨56,hlfL d2h⟩],[],[ownF w.heap.size (.slice A1 L.length c1) 13 (L.map hlfCells),ownF w.heap.size (.slice v11a ((dropHalf ((putHalf d2l d2h d2m).1) d2h.t).length) v11c) 13 ((dropHalf ((putHalf d2l d2h d2m).1) d2h.t).map hlfCells),ownF w.heap.size (.slice v5a ((putHalf d2l d2h d2m).1.length) v5c) 13 ((putHalf d2l d2h d2m).1.map hlfCells),rowF w.heap.size 56 13 (.slice d2a d2l.length d2c) (d2l.map hlfCells),slF (.slice Ac code.length Cc) 1 (code.map byteRow)]⟩ : St)) x.1.1 x.1.2.1 x.1.2.2.1 x.1.2.2.2) (fun x => (fun (i : Nat) (L : List Hlf) (A1 : Option Addr) (c1 : Nat) => 7 - i) x.1.1 x.1.2.1 x.1.2.2.1 x.1.2.2.2) ⟨(0,(putHalf d2l d2h d2m).1,v3a,v3c),⟨(by omega),(fun x hx => by have := ok_age hp3 x (by rw [← hp1]; exact hx); dsimp only; omega),(by assumption)⟩⟩ ((wk_pick [2,0,1,3,4] [ownF w.heap.size (.slice v3a ((putHalf d2l d2h d2m).1.length) v3c) 13 ((putHalf d2l d2h d2m).1.map hlfCells),ownF w.heap.size (.slice v11a ((dropHalf ((putHalf d2l d2h d2m).1) d2h.t).length) v11c) 13 ((dropHalf ((putHalf d2l d2h d2m).1) d2h.t).map hlfCells),ownF w.heap.size (.slice v5a ((putHalf d2l d2h d2m).1.length) v5c) 13 ((putHalf d2l d2h d2m).1.map hlfCells),rowF w.heap.size 56 13 (.slice d2a d2l.length d2c) (d2l.map hlfCells),slF (.slice Ac code.length Cc) 1 (code.map byteRow)] (by kernel_rfl) (by kernel_rfl)).trans <| wk_forget 1 0 [3,4,5,6,8,10,11] (by kernel_rfl) (by kernel_rfl) (by kernel_rfl)) ?_
  rintro ⟨⟨i,L,A1,c1⟩,hi,hL,hll⟩
  refine xw_wk (Wk.of_eq (s' := ⟨[(3,.v (.slice d2a d2l.length d2c)),(4,.p 0 0),(5,.v (.int .i64 d2m)),(6,.v (.slice A1 L.length c1)),(8,.v (.slice v5a ((putHalf d2l d2h d2m).1.length) v5c)),(10,.v (.slice v11a ((dropHalf ((putHalf d2l d2h d2m).1) d2h.t).length) v11c)),(11,.v (.int .i64 (i : Int)))],[⟨56,hlfL d2h⟩],[],[ownF w.heap.size (.slice A1 L.length c1) 13 (L.map hlfCells),ownF w.heap.size (.slice v11a ((dropHalf ((putHalf d2l d2h d2m).1) d2h.t).length) v11c) 13 ((dropHalf ((putHalf d2l d2h d2m).1) d2h.t).map hlfCells),ownF w.heap.size (.slice v5a ((putHalf d2l d2h d2m).1.length) v5c) 13 ((putHalf d2l d2h d2m).1.map hlfCells),rowF w.heap.size 56 13 (.slice d2a d2l.length d2c) (d2l.map hlfCells),slF (.slice Ac code.length Cc) 1 (code.map byteRow)]⟩) rfl) ?_
  try dsimp only at hi hL hll
  refine xw_seq ?_
  refine xw_seq ?_
  refine xw_region ?_
  refine xl_endS [3,4,5,6,8,10,11,60] [(3,.v (.slice d2a d2l.length d2c)),(4,.p 0 0),(5,.v (.int .i64 d2m)),(6,.v (.slice A1 L.length c1)),(8,.v (.slice v5a ((putHalf d2l d2h d2m).1.length) v5c)),(10,.v (.slice v11a ((dropHalf ((putHalf d2l d2h d2m).1) d2h.t).length) v11c)),(11,.v (.int .i64 (i : Int))),(60,.v (.bool (decide ((i : Int) ≤ 6))))] (by kernel_rfl) ?_
  refine xw_cond (b := decide ((i : Int) ≤ 6)) (by kernel_rfl) (fun h13 => ?_) (fun h13 => ?_)
  have h13p : ((i : Int) ≤ 6) := of_decide_eq_true h13
  have hlt : i ≤ 6 := by simp at h13; omega
  have hag : ∀ x ∈ L,0 ≤ x.age ∧ x.age ≤ 6 := fun x hx => by have := hL x hx; omega
  refine xw_skip ?_
  refine xw_seq ?_
  refine xw_block ?_
  refine xw_region ?_
  refine xl_callS 1 [3,4,5,6,8,10,11,63] [(3,.v (.slice d2a d2l.length d2c)),(4,.p 0 0),(5,.v (.int .i64 d2m)),(6,.v (.slice A1 L.length c1)),(8,.v (.slice v5a ((putHalf d2l d2h d2m).1.length) v5c)),(10,.v (.slice v11a ((dropHalf ((putHalf d2l d2h d2m).1) d2h.t).length) v11c)),(11,.v (.int .i64 (i : Int))),(63,.v (.slice A1 L.length c1))] 34 [.slice A1 L.length c1] (some 64) (by kernel_rfl) rfl (by kernel_rfl) rfl (by kernel_rfl) (xc_r fun ww hw hf => yAgedHalves_c L (.slice A1 L.length c1) ww (Own.sl (hf (ownF w.heap.size (.slice A1 L.length c1) 13 (L.map hlfCells)) (by simp))) (by assumption) (by assumption) w.heap.size hw) ?_
  rintro ⟨v14a,v14c⟩
  refine xl_endS [3,4,5,6,8,10,11] [(3,.v (.slice d2a d2l.length d2c)),(4,.p 0 0),(5,.v (.int .i64 d2m)),(6,.v (.slice v14a ((agedH L).length) v14c)),(8,.v (.slice v5a ((putHalf d2l d2h d2m).1.length) v5c)),(10,.v (.slice v11a ((dropHalf ((putHalf d2l d2h d2m).1) d2h.t).length) v11c)),(11,.v (.int .i64 (i : Int)))] (by kernel_rfl) ?_
  refine xw_region ?_
  refine xl_runS 3 [3,4,5,6,8,10,11] [(3,.v (.slice d2a d2l.length d2c)),(4,.p 0 0),(5,.v (.int .i64 d2m)),(6,.v (.slice v14a ((agedH L).length) v14c)),(8,.v (.slice v5a ((putHalf d2l d2h d2m).1.length) v5c)),(10,.v (.slice v11a ((dropHalf ((putHalf d2l d2h d2m).1) d2h.t).length) v11c)),(11,.v (.int .i64 (IntKind.i64.wrap ((i : Int) + 1))))] (by kernel_rfl) ?_
  refine xl_eqS (t' := [(3,.v (.slice d2a d2l.length d2c)),(4,.p 0 0),(5,.v (.int .i64 d2m)),(6,.v (.slice v14a ((agedH L).length) v14c)),(8,.v (.slice v5a ((putHalf d2l d2h d2m).1.length) v5c)),(10,.v (.slice v11a ((dropHalf ((putHalf d2l d2h d2m).1) d2h.t).length) v11c)),(11,.v (.int .i64 ((i : Int) + 1)))]) (by rw [show (IntKind.i64.wrap ((i : Int) + 1)) = ((i : Int) + 1) from wrap_id (by omega) (by omega)]) ?_
  refine xl_endS [3,4,5,6,8,10,11] [(3,.v (.slice d2a d2l.length d2c)),(4,.p 0 0),(5,.v (.int .i64 d2m)),(6,.v (.slice v14a ((agedH L).length) v14c)),(8,.v (.slice v5a ((putHalf d2l d2h d2m).1.length) v5c)),(10,.v (.slice v11a ((dropHalf ((putHalf d2l d2h d2m).1) d2h.t).length) v11c)),(11,.v (.int .i64 ((i : Int) + 1)))] (by kernel_rfl) ?_
  exact ⟨⟨(i + 1,(agedH L),v14a,v14c),⟨by omega,age_next hL,Nat.le_trans (aged_le L) hll⟩⟩,(wk_pick [0,2,3,4,5] [ownF w.heap.size (.slice v14a ((agedH L).length) v14c) 13 ((agedH L).map hlfCells),ownF w.heap.size (.slice v11a ((dropHalf ((putHalf d2l d2h d2m).1) d2h.t).length) v11c) 13 ((dropHalf ((putHalf d2l d2h d2m).1) d2h.t).map hlfCells),ownF w.heap.size (.slice v5a ((putHalf d2l d2h d2m).1.length) v5c) 13 ((putHalf d2l d2h d2m).1.map hlfCells),rowF w.heap.size 56 13 (.slice d2a d2l.length d2c) (d2l.map hlfCells),slF (.slice Ac code.length Cc) 1 (code.map byteRow)] (by kernel_rfl) (by kernel_rfl)).trans <| wk_forget 1 0 [3,4,5,6,8,10,11] (by kernel_rfl) (by kernel_rfl) (by kernel_rfl),by show (fun (i : Nat) (L : List Hlf) (A1 : Option Addr) (c1 : Nat) => 7 - i) (i + 1) (agedH L) v14a v14c < 7 - i; (dsimp only; omega)⟩
  have h13p : ¬ ((i : Int) ≤ 6) := of_decide_eq_false h13
  have hnil : L = [] := age_end (fun x hx => by have := hL x hx; simp at h13; omega)
  refine xw_exit ?_
  refine xw_seq ?_
  refine xw_region ?_
  refine xl_callS 1 [3,4,5,6,8,10,65] [(3,.v (.slice d2a d2l.length d2c)),(4,.p 0 0),(5,.v (.int .i64 d2m)),(6,.v (.slice A1 L.length c1)),(8,.v (.slice v5a ((putHalf d2l d2h d2m).1.length) v5c)),(10,.v (.slice v11a ((dropHalf ((putHalf d2l d2h d2m).1) d2h.t).length) v11c)),(65,.v (.slice v5a ((putHalf d2l d2h d2m).1.length) v5c))] 31 [.slice v5a ((putHalf d2l d2h d2m).1.length) v5c] (some 66) (by kernel_rfl) rfl (by kernel_rfl) rfl (by kernel_rfl) (xc_b fun ww hf => yiHalvesOk_c ((putHalf d2l d2h d2m).1) (.slice v5a ((putHalf d2l d2h d2m).1.length) v5c) ww (Own.sl (hf (ownF w.heap.size (.slice v5a ((putHalf d2l d2h d2m).1.length) v5c) 13 ((putHalf d2l d2h d2m).1.map hlfCells)) (by simp))) ) ?_
  intro _
  refine xl_runS 1 [3,4,5,6,8,10,67] [(3,.v (.slice d2a d2l.length d2c)),(4,.p 0 0),(5,.v (.int .i64 d2m)),(6,.v (.slice A1 L.length c1)),(8,.v (.slice v5a ((putHalf d2l d2h d2m).1.length) v5c)),(10,.v (.slice v11a ((dropHalf ((putHalf d2l d2h d2m).1) d2h.t).length) v11c)),(67,.v (.bool (halvesOk (putHalf d2l d2h d2m).1)))] (by kernel_rfl) ?_
  refine xl_split 67 (b := halvesOk (putHalf d2l d2h d2m).1) (by kernel_rfl) (fun h15 => ?_) (fun h15 => ?_)
  refine xl_runS 6 [3,4,6,8,10,73] [(3,.v (.slice d2a d2l.length d2c)),(4,.p 0 0),(6,.v (.slice A1 L.length c1)),(8,.v (.slice v5a ((putHalf d2l d2h d2m).1.length) v5c)),(10,.v (.slice v11a ((dropHalf ((putHalf d2l d2h d2m).1) d2h.t).length) v11c)),(73,.v (.bool (decide ((((putHalf d2l d2h d2m).1.length : Nat) : Int) ≤ d2m))))] (by kernel_rfl) ?_
  refine xl_split 73 (b := decide ((((putHalf d2l d2h d2m).1.length : Nat) : Int) ≤ d2m)) (by kernel_rfl) (fun h16 => ?_) (fun h16 => ?_)
  have h16p : ((((putHalf d2l d2h d2m).1.length : Nat) : Int) ≤ d2m) := of_decide_eq_true h16
  refine xl_callS 3 [3,6,10,73,74,76] [(3,.v (.slice d2a d2l.length d2c)),(6,.v (.slice A1 L.length c1)),(10,.v (.slice v11a ((dropHalf ((putHalf d2l d2h d2m).1) d2h.t).length) v11c)),(73,.v (.bool true)),(74,.v (.slice v5a ((putHalf d2l d2h d2m).1.length) v5c)),(76,.v (.agg (tupL d2h.t).toArray))] 35 [.slice v5a ((putHalf d2l d2h d2m).1.length) v5c,.agg (tupL d2h.t).toArray] (some 77) (by kernel_rfl) rfl (by kernel_rfl) rfl (by kernel_rfl) (xc_b fun ww hf => iFindHalf_c (.slice v5a ((putHalf d2l d2h d2m).1.length) v5c) ((putHalf d2l d2h d2m).1) d2h.t.ip d2h.t.port d2h.t.my ww (Own.sl (hf (ownF w.heap.size (.slice v5a ((putHalf d2l d2h d2m).1.length) v5c) 13 ((putHalf d2l d2h d2m).1.map hlfCells)) (by simp))) ) ?_
  intro _
  refine xl_runS 5 [3,6,10,82] [(3,.v (.slice d2a d2l.length d2c)),(6,.v (.slice A1 L.length c1)),(10,.v (.slice v11a ((dropHalf ((putHalf d2l d2h d2m).1) d2h.t).length) v11c)),(82,.v (.bool ((findHalf ((putHalf d2l d2h d2m).1) d2h.t) == ((d2l.length : Nat) : Int))))] (by kernel_rfl) ?_
  refine xl_split 82 (b := (findHalf ((putHalf d2l d2h d2m).1) d2h.t) == ((d2l.length : Nat) : Int)) (by kernel_rfl) (fun h17 => ?_) (fun h17 => ?_)
  have h17p := eqT h17
  refine xl_callS 2 [3,6,10,82,83,84] [(3,.v (.slice d2a d2l.length d2c)),(6,.v (.slice A1 L.length c1)),(10,.v (.slice v11a ((dropHalf ((putHalf d2l d2h d2m).1) d2h.t).length) v11c)),(82,.v (.bool true)),(83,.v (.slice v11a ((dropHalf ((putHalf d2l d2h d2m).1) d2h.t).length) v11c)),(84,.v (.slice d2a d2l.length d2c))] 30 [.slice v11a ((dropHalf ((putHalf d2l d2h d2m).1) d2h.t).length) v11c,.slice d2a d2l.length d2c] (some 85) (by kernel_rfl) rfl (by kernel_rfl) rfl (by kernel_rfl) (xc_b fun ww hf => sSameHalves_c (.slice v11a ((dropHalf ((putHalf d2l d2h d2m).1) d2h.t).length) v11c) (.slice d2a d2l.length d2c) (dropHalf ((putHalf d2l d2h d2m).1) d2h.t) d2l ww (Own.sl (hf (ownF w.heap.size (.slice v11a ((dropHalf ((putHalf d2l d2h d2m).1) d2h.t).length) v11c) 13 ((dropHalf ((putHalf d2l d2h d2m).1) d2h.t).map hlfCells)) (by simp))) (rowF_sl (hf (rowF w.heap.size 56 13 (.slice d2a d2l.length d2c) (d2l.map hlfCells)) (by simp)))) ?_
  intro _
  refine xl_runS 2 [3,6,10,87] [(3,.v (.slice d2a d2l.length d2c)),(6,.v (.slice A1 L.length c1)),(10,.v (.slice v11a ((dropHalf ((putHalf d2l d2h d2m).1) d2h.t).length) v11c)),(87,.v (.bool (sameL hlfEq (dropHalf ((putHalf d2l d2h d2m).1) d2h.t) d2l)))] (by kernel_rfl) ?_
  refine xl_split 87 (b := sameL hlfEq (dropHalf ((putHalf d2l d2h d2m).1) d2h.t) d2l) (by kernel_rfl) (fun h18 => ?_) (fun h18 => ?_)
  refine xl_callS 2 [6,87,88,89] [(6,.v (.slice A1 L.length c1)),(87,.v (.bool true)),(88,.v (.slice v11a ((dropHalf ((putHalf d2l d2h d2m).1) d2h.t).length) v11c)),(89,.v (.slice d2a d2l.length d2c))] 36 [.slice v11a ((dropHalf ((putHalf d2l d2h d2m).1) d2h.t).length) v11c,.slice d2a d2l.length d2c] (some 90) (by kernel_rfl) rfl (by kernel_rfl) rfl (by kernel_rfl) (xc_b fun ww hf => iSameHalves_c (.slice v11a ((dropHalf ((putHalf d2l d2h d2m).1) d2h.t).length) v11c) (.slice d2a d2l.length d2c) (dropHalf ((putHalf d2l d2h d2m).1) d2h.t) d2l ww (Own.sl (hf (ownF w.heap.size (.slice v11a ((dropHalf ((putHalf d2l d2h d2m).1) d2h.t).length) v11c) 13 ((dropHalf ((putHalf d2l d2h d2m).1) d2h.t).map hlfCells)) (by simp))) (rowF_sl (hf (rowF w.heap.size 56 13 (.slice d2a d2l.length d2c) (d2l.map hlfCells)) (by simp)))) ?_
  intro _
  refine xl_runS 2 [6,92] [(6,.v (.slice A1 L.length c1)),(92,.v (.bool (sameL hlfEq (dropHalf ((putHalf d2l d2h d2m).1) d2h.t) d2l)))] (by kernel_rfl) ?_
  refine xl_split 92 (b := sameL hlfEq (dropHalf ((putHalf d2l d2h d2m).1) d2h.t) d2l) (by kernel_rfl) (fun h19 => ?_) (fun h19 => ?_)
  refine xl_endS [2] [(2,.v (.bool (((L.length : Nat) : Int) == 0)))] (by kernel_rfl) ?_
  refine xw_ret ?_
  exact ⟨[.bool (((L.length : Nat) : Int) == 0)],by kernel_rfl,fun w' hb hf => ⟨ret_bool (show (((L.length : Nat) : Int) == 0 : Bool) = true from by first | (rw [put_no hno]; exact sameH_self _) | (simp [hnil])),hb⟩⟩
  exfalso; rw [hp1,ok_drop hp3,sameH_self] at h19; cases h19
  exfalso; rw [hp1,ok_drop hp3,sameH_self] at h18; cases h18
  have h17p := eqF h17
  exfalso; rw [hp1,ok_find hp3] at h17; simp at h17
  have h16p : ¬ ((((putHalf d2l d2h d2m).1.length : Nat) : Int) ≤ d2m) := of_decide_eq_false h16
  exfalso; rw [hp1] at h16; simp at h16; omega
  exfalso; rw [hp1,hp3] at h15; cases h15

set_option maxRecDepth 100000 in
theorem fnHalves_lifted (os : Os) (started : os.Started) (H : Type) (enc : TypeId × Value → H) :
    ReturnsInHanded {} Try.checked os 6 .any (Rows.fnHalvesSpec.pre6 enc Try.prog Try.f6 Rows.fnHalvesRow.domain false) (Rows.fnHalvesSpec.post enc Try.prog Try.f6 false true false false) := by
  refine returnsInHanded_of_change (C := Try.checked) Try.ownK started (by kernel_rfl) Try.func6
    (ChangeSpec.witness6 (enc := enc) (C := Try.checked) false ⟨#[], #[.slice none 0 0], []⟩ 8 (by kernel_rfl) (by kernel_rfl) (by kernel_rfl) (by kernel_rfl)) ?_
  intro W base args ds gs before hval0 hW hcnd _
  have hval : ∀ (j : Nat) t v, Try.f6.params[j]? = some t → args[j]? = some v → Value.okWide Try.prog W .any base t v := hval0
  have hW' := hW
  obtain ⟨p, q, hA0, hV, rfl, hfz, hnd⟩ := hW
  have hA : DataW.TrodAll enc Try.prog W 0 (fun _ => true) true Try.f6.params.toList args.toList ds p := hA0
  rw [Try.params6] at hA hval
  obtain ⟨v0, vs0, d0, ds0, p0, q0, hargs, rfl, rfl, h0, r0⟩ := trodAll_cons hA
  obtain ⟨rfl, rfl, rfl⟩ := trodAll_nil r0
  obtain rfl : args = #[v0] := by cases args; simp_all
  obtain ⟨rfl, rfl⟩ := trodVars_none hV
  clear hA0 hval0
  have g0 := h0
  obtain ⟨l0, L0⟩ := openS_byte (hval 0 _ v0 rfl rfl) g0
  refine (fnHalves_walk l0 v0 W L0).mono fun e W' ⟨he, hb⟩ => ?_
  subst he
  have hlt : ∀ x ∈ (p0 ++ ([])) ++ [], x.block < W.heap.size := fun x hx => hW'.lt x hx
  refine ⟨_, rfl, post_of_below (pa := (p0 ++ ([]))) (pv := []) hW' (fun _ _ _ => trodAll_cons_mk (shut_bool Try.underlying4 _) trodAll_mk0) (fun sp hsp => trodAll_cons_mk (WideElems.Trod_stays Try.laidOut (by kernel_rfl) (of_decide_eq_true (by kernel_rfl)) h0 (fun x hx => hb.same (hlt x (List.mem_append_left _ (List.mem_append_left _ hx)))) (fun x hx => hsp x (List.mem_append_left _ (List.mem_append_left _ hx)))) (trodAll_mk0)) (fun _ _ => rfl) rfl hb (ok_one (by kernel_rfl) rfl (okWide_bool_mk Try.underlying4 _))⟩

theorem fnHalves_over : Rows.fnHalvesRow.holds Try.pinned (OpenSpec.ofChange Rows.fnHalvesSpec) :=
  OpenClaim.holds_of_wide 6 Try.f6 rfl rfl rfl rfl rfl rfl rfl ⟨rfl, rfl, rfl, rfl, rfl⟩ rfl rfl rfl rfl rfl (by kernel_rfl) Try.func6 (by kernel_rfl)
    (of_decide_eq_true (by kernel_rfl)) (by unfold Func.isWrapper; first | (rw [if_pos (by decide +kernel)]; kernel_rfl) | (rw [if_neg (by decide +kernel)]; exact ⟨rfl, rfl⟩))
    (fun os started H enc _ => fnHalves_lifted os started H enc)

theorem fnHalves_holds : Rows.FnHalvesSaid := fnHalves_over
#print axioms fnHalves_holds
end Go.Proofs.Ytcoppgllfipbeaa
