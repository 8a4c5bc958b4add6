/- The law FnKept holds: for every argument the program's function answers true and leaves its arguments as they were. Conditions: none beyond the given row's. -/
import Derived.Test.YtcoppgllfipbeaaZ1
import Derived.Test.YtcoppgllfipbeaaOB
namespace Go.Proofs.Ytcoppgllfipbeaa
open Go.RowKit Go.ChangeShapes Go.WideShapes Go.ChangeAt
set_option linter.unusedVariables false
set_option linter.unusedSimpArgs false

set_option maxRecDepth 100000 in
set_option maxHeartbeats 2000000 in
theorem fnKept_walk (code : List Int) (codeV : Value) (w : World) (hl_codeV : Sl w codeV 1 (code.map byteRow)) : Calls Try.prog 3 #[codeV] w fun e w' => e = .returned (.bool true) ∧ Below w.heap.size w w' := by
  obtain ⟨Ac,Cc,hvc⟩ := hl_codeV.form
  rw [List.length_map] at hvc; subst hvc
  have hnc := hl_codeV.len; rw [List.length_map] at hnc
  have hqc := Sl.capLe hl_codeV
  refine x_calls (args := [.slice Ac code.length Cc]) (fn := Try.f3) [slF (.slice Ac code.length Cc) 1 (code.map byteRow)] Try.func3 rfl Try.ntmps3 rfl (by simp only [List.mem_cons,List.not_mem_nil,or_false,forall_eq_or_imp,forall_eq]; exact ⟨rfl,hl_codeV⟩) ?_
  refine xw_seq ?_
  refine xw_region ?_
  refine xl_end [0] ⟨[(0,.v (.slice Ac code.length Cc))],[],[],[slF (.slice Ac code.length Cc) 1 (code.map byteRow)]⟩ (by kernel_rfl) ?_
  refine xw_seq ?_
  refine xw_seq ?_
  refine xw_region ?_
  refine xl_callS 1 [0,5] [(0,.v (.slice Ac code.length Cc)),(5,.v (.slice Ac code.length Cc))] 7 [.slice Ac code.length Cc] (some 6) (by kernel_rfl) rfl (by kernel_rfl) rfl (by kernel_rfl) (xc_b fun ww hf => big_c code Ac Cc ww (hf (slF (.slice Ac code.length Cc) 1 (code.map byteRow)) (by simp))) ?_
  intro _
  refine xl_endS [0,6] [(0,.v (.slice Ac code.length Cc)),(6,.v (.bool (decide (((code.length : Nat) : Int) > 1048576))))] (by kernel_rfl) ?_
  refine xw_cond (b := decide (((code.length : Nat) : Int) > 1048576)) (by kernel_rfl) (fun h1 => ?_) (fun h1 => ?_)
  have h1p : (((code.length : Nat) : Int) > 1048576) := of_decide_eq_true h1
  refine xw_seq ?_
  refine xw_region ?_
  refine xl_endS [2] [(2,.v (.bool true))] (by kernel_rfl) ?_
  refine xw_ret ?_
  exact ⟨[.bool true],by kernel_rfl,fun w' hb hf => ⟨rfl,hb⟩⟩
  have h1p : ¬ (((code.length : Nat) : Int) > 1048576) := of_decide_eq_false h1
  have hbig : code.length ≤ 1048576 := by simp at h1; omega
  refine xw_skip ?_
  refine xw_seq ?_
  refine xw_region ?_
  refine xl_callS 1 [7] [(7,.v (.slice Ac code.length Cc))] 8 [.slice Ac code.length Cc] (some 8) (by kernel_rfl) rfl (by kernel_rfl) rfl (by kernel_rfl) (xc_e (α := Opt) (F := fun y => .agg (optL y).toArray) (p := fun y => True) fun ww hf => drawKept_c code Ac Cc ww (hf (slF (.slice Ac code.length Cc) 1 (code.map byteRow)) (by simp)) (by omega)) ?_
  rintro ⟨d2,hd3⟩
  refine xl_end [3] ⟨[(3,.p 0 0)],[⟨25,optL d2⟩],[],[slF (.slice Ac code.length Cc) 1 (code.map byteRow)]⟩ (by kernel_rfl) ?_
  refine xw_seq ?_
  refine xw_region ?_
  refine xl_callS 1 [3,9] [(3,.p 0 0),(9,.v (.agg (optL d2).toArray))] 9 [.agg (optL d2).toArray] (some 10) (by kernel_rfl) rfl (by kernel_rfl) rfl (by kernel_rfl) (xc_b fun ww hf => iKeptOptions_c d2.mss d2.scale d2.sack d2.stamp d2.val d2.echo ww ) ?_
  intro _
  refine xl_end [3,4] ⟨[(3,.p 0 0),(4,.p 1 0)],[⟨25,optL d2⟩,⟨25,optL (keptOptions d2)⟩],[],[slF (.slice Ac code.length Cc) 1 (code.map byteRow)]⟩ (by kernel_rfl) ?_
  refine xw_seq ?_
  refine xw_seq ?_
  refine xe_region [] (by kernel_rfl) (fun ρ σ => ?_)
  refine xe_tkS [0,1] [12,11,3,4] 2 [(12,.v (.agg (optL d2).toArray)),(11,.v (.agg (optL (keptOptions d2)).toArray)),(3,.p 0 0),(4,.p 1 0)] (fun _ _ h => h) rfl (by kernel_rfl) ?_
  refine xe_all [2] (by kernel_rfl) (by simp) ?_
  refine xs_call 2 10 [.agg (optL d2).toArray] (some 13) rfl (by kernel_rfl) rfl (by kernel_rfl) (xc_b fun ww hf => sKeptOptions_c d2.mss d2.scale d2.sack d2.stamp d2.val d2.echo ww ) ?_
  intro _
  refine xe_op 3 (.bool (!optEq (keptOptions d2) (keptOptions d2))) _ rfl (by kernel_rfl) (by kernel_rfl) (by kernel_rfl) (fun _ _ h => h) (by kernel_rfl) rfl (fun _ _ ww hA => act_bin hA rfl (by kernel_rfl) (by kernel_rfl) (agg_bin (by kernel_rfl) (run_neq_OPT ((keptOptions d2).mss) ((keptOptions d2).scale) ((keptOptions d2).sack) ((keptOptions d2).stamp) ((keptOptions d2).val) ((keptOptions d2).echo) ((keptOptions d2).mss) ((keptOptions d2).scale) ((keptOptions d2).sack) ((keptOptions d2).stamp) ((keptOptions d2).val) ((keptOptions d2).echo) ww))) rfl ?_
  refine xe_done (by kernel_rfl) ?_
  refine xw_cond (b := !optEq (keptOptions d2) (keptOptions d2)) (by kernel_rfl) (fun h4 => ?_) (fun h4 => ?_)
  exfalso; simp [optEq_self] at h4
  refine xw_skip ?_
  refine xw_seq ?_
  refine xw_join ⟨[(2,.v (.bool ((((keptOptions d2).mss) == d2.mss) && (if (!d2.stamp) = true then if d2.stamp = true then (!(optionsOk d2)) || (optionsOk (keptOptions d2)) else (((keptOptions d2).scale) == (-1)) && ((!((keptOptions d2).sack)) && ((!(optionsOk d2)) || (optionsOk (keptOptions d2)))) else (optEq (keptOptions d2) d2) && (if d2.stamp = true then (!(optionsOk d2)) || (optionsOk (keptOptions d2)) else (((keptOptions d2).scale) == (-1)) && ((!((keptOptions d2).sack)) && ((!(optionsOk d2)) || (optionsOk (keptOptions d2)))))))))],[⟨25,optL d2⟩,⟨25,optL (keptOptions d2)⟩],[],[slF (.slice Ac code.length Cc) 1 (code.map byteRow)]⟩ ?_ ?_
  refine xw_region ?_
  refine xl_runS 6 [3,4,20] [(3,.p 0 0),(4,.p 1 0),(20,.v (.bool (((keptOptions d2).mss) == d2.mss)))] (by kernel_rfl) ?_
  refine xl_split 20 (b := ((keptOptions d2).mss) == d2.mss) (by kernel_rfl) (fun h5 => ?_) (fun h5 => ?_)
  have h5p := eqT h5
  refine xl_runS 4 [3,4,20,24] [(3,.p 0 0),(4,.p 1 0),(20,.v (.bool true)),(24,.v (.bool (!d2.stamp)))] (by kernel_rfl) ?_
  refine xl_split 24 (b := !d2.stamp) (by kernel_rfl) (fun h6 => ?_) (fun h6 => ?_)
  have h6n := not_t h6
  refine xl_runS 9 [3,4,30,33] [(3,.p 0 0),(4,.p 1 0),(30,.v (.bool true)),(33,.v (.bool d2.stamp))] (by kernel_rfl) ?_
  refine xl_split 33 (b := d2.stamp) (by kernel_rfl) (fun h7 => ?_) (fun h7 => ?_)
  refine xl_callS 12 [4,44,45] [(4,.p 1 0),(44,.v (.bool true)),(45,.v (.agg (optL d2).toArray))] 11 [.agg (optL d2).toArray] (some 46) (by kernel_rfl) rfl (by kernel_rfl) rfl (by kernel_rfl) (xc_b fun ww hf => sOptionsOk_c d2.mss d2.scale d2.sack d2.stamp d2.val d2.echo ww ) ?_
  intro _
  refine xl_runS 2 [4,44,48] [(4,.p 1 0),(44,.v (.bool true)),(48,.v (.bool (!(optionsOk d2))))] (by kernel_rfl) ?_
  refine xl_split 48 (b := !(optionsOk d2)) (by kernel_rfl) (fun h8 => ?_) (fun h8 => ?_)
  have h8n := not_t h8
  refine xl_endS [2] [(2,.v (.bool true))] (by kernel_rfl) ?_
  show Wk _ _
  try rw [h5]
  try rw [h6]
  try rw [h7]
  try rw [h8]
  exact wk_forget 2 0 [2] (by kernel_rfl) (by kernel_rfl) (by kernel_rfl)
  have h8n := not_f h8
  have h8nw := optionsOk_bd (by simpa using h8n)
  obtain ⟨h8nw0,h8nw1⟩ := h8nw
  refine xl_callS 1 [44,48,49] [(44,.v (.bool true)),(48,.v (.bool false)),(49,.v (.agg (optL (keptOptions d2)).toArray))] 12 [.agg (optL (keptOptions d2)).toArray] (some 50) (by kernel_rfl) rfl (by kernel_rfl) rfl (by kernel_rfl) (xc_b fun ww hf => iOptionsOk_c ((keptOptions d2).mss) ((keptOptions d2).scale) ((keptOptions d2).sack) ((keptOptions d2).stamp) ((keptOptions d2).val) ((keptOptions d2).echo) ww ) ?_
  intro _
  refine xl_endS [2] [(2,.v (.bool (optionsOk (keptOptions d2))))] (by kernel_rfl) ?_
  show Wk _ _
  try rw [h5]
  try rw [h6]
  try rw [h7]
  try rw [h8]
  exact wk_forget 2 0 [2] (by kernel_rfl) (by kernel_rfl) (by kernel_rfl)
  refine xl_runS 4 [3,4,30,33,37] [(3,.p 0 0),(4,.p 1 0),(30,.v (.bool true)),(33,.v (.bool false)),(37,.v (.bool (((keptOptions d2).scale) == (-1))))] (by kernel_rfl) ?_
  refine xl_split 37 (b := ((keptOptions d2).scale) == (-1)) (by kernel_rfl) (fun h9 => ?_) (fun h9 => ?_)
  have h9p := eqT h9
  refine xl_runS 7 [3,4,44] [(3,.p 0 0),(4,.p 1 0),(44,.v (.bool (!((keptOptions d2).sack))))] (by kernel_rfl) ?_
  refine xl_split 44 (b := !((keptOptions d2).sack)) (by kernel_rfl) (fun h10 => ?_) (fun h10 => ?_)
  have h10n := not_t h10
  refine xl_callS 1 [4,44,45] [(4,.p 1 0),(44,.v (.bool true)),(45,.v (.agg (optL d2).toArray))] 11 [.agg (optL d2).toArray] (some 46) (by kernel_rfl) rfl (by kernel_rfl) rfl (by kernel_rfl) (xc_b fun ww hf => sOptionsOk_c d2.mss d2.scale d2.sack d2.stamp d2.val d2.echo ww ) ?_
  intro _
  refine xl_runS 2 [4,44,48] [(4,.p 1 0),(44,.v (.bool true)),(48,.v (.bool (!(optionsOk d2))))] (by kernel_rfl) ?_
  refine xl_split 48 (b := !(optionsOk d2)) (by kernel_rfl) (fun h11 => ?_) (fun h11 => ?_)
  have h11n := not_t h11
  refine xl_endS [2] [(2,.v (.bool true))] (by kernel_rfl) ?_
  show Wk _ _
  try rw [h5]
  try rw [h6]
  try rw [h7]
  try rw [h9]
  try rw [h10]
  try rw [h11]
  exact wk_forget 2 0 [2] (by kernel_rfl) (by kernel_rfl) (by kernel_rfl)
  have h11n := not_f h11
  have h11nw := optionsOk_bd (by simpa using h11n)
  obtain ⟨h11nw0,h11nw1⟩ := h11nw
  refine xl_callS 1 [44,48,49] [(44,.v (.bool true)),(48,.v (.bool false)),(49,.v (.agg (optL (keptOptions d2)).toArray))] 12 [.agg (optL (keptOptions d2)).toArray] (some 50) (by kernel_rfl) rfl (by kernel_rfl) rfl (by kernel_rfl) (xc_b fun ww hf => iOptionsOk_c ((keptOptions d2).mss) ((keptOptions d2).scale) ((keptOptions d2).sack) ((keptOptions d2).stamp) ((keptOptions d2).val) ((keptOptions d2).echo) ww ) ?_
  intro _
  refine xl_endS [2] [(2,.v (.bool (optionsOk (keptOptions d2))))] (by kernel_rfl) ?_
  show Wk _ _
  try rw [h5]
  try rw [h6]
  try rw [h7]
  try rw [h9]
  try rw [h10]
  try rw [h11]
  exact wk_forget 2 0 [2] (by kernel_rfl) (by kernel_rfl) (by kernel_rfl)
  have h10n := not_f h10
  refine xl_endS [2] [(2,.v (.bool false))] (by kernel_rfl) ?_
  show Wk _ _
  try rw [h5]
  try rw [h6]
  try rw [h7]
  try rw [h9]
  try rw [h10]
  exact wk_forget 2 0 [2] (by kernel_rfl) (by kernel_rfl) (by kernel_rfl)
  have h9p := eqF h9
  refine xl_endS [2] [(2,.v (.bool false))] (by kernel_rfl) ?_
  show Wk _ _
  try rw [h5]
  try rw [h6]
  try rw [h7]
  try rw [h9]
  exact wk_forget 2 0 [2] (by kernel_rfl) (by kernel_rfl) (by kernel_rfl)
  have h6n := not_f h6
  refine xl_opS 2 [3,4,20,24,25,26] [(3,.p 0 0),(4,.p 1 0),(20,.v (.bool true)),(24,.v (.bool false)),(25,.v (.agg (optL (keptOptions d2)).toArray)),(26,.v (.agg (optL d2).toArray))] (.bool (optEq (keptOptions d2) d2)) (by kernel_rfl) rfl (by kernel_rfl) rfl (fun _ _ _ ww hr => act_bin hr.1 rfl (by kernel_rfl) (by kernel_rfl) (agg_bin (by kernel_rfl) (run_eql_OPT ((keptOptions d2).mss) ((keptOptions d2).scale) ((keptOptions d2).sack) ((keptOptions d2).stamp) ((keptOptions d2).val) ((keptOptions d2).echo) d2.mss d2.scale d2.sack d2.stamp d2.val d2.echo ww))) ?_
  refine xl_runS 3 [3,4,30] [(3,.p 0 0),(4,.p 1 0),(30,.v (.bool (optEq (keptOptions d2) d2)))] (by kernel_rfl) ?_
  refine xl_split 30 (b := optEq (keptOptions d2) d2) (by kernel_rfl) (fun h12 => ?_) (fun h12 => ?_)
  refine xl_runS 3 [3,4,30,33] [(3,.p 0 0),(4,.p 1 0),(30,.v (.bool true)),(33,.v (.bool d2.stamp))] (by kernel_rfl) ?_
  refine xl_split 33 (b := d2.stamp) (by kernel_rfl) (fun h13 => ?_) (fun h13 => ?_)
  refine xl_callS 12 [4,44,45] [(4,.p 1 0),(44,.v (.bool true)),(45,.v (.agg (optL d2).toArray))] 11 [.agg (optL d2).toArray] (some 46) (by kernel_rfl) rfl (by kernel_rfl) rfl (by kernel_rfl) (xc_b fun ww hf => sOptionsOk_c d2.mss d2.scale d2.sack d2.stamp d2.val d2.echo ww ) ?_
  intro _
  refine xl_runS 2 [4,44,48] [(4,.p 1 0),(44,.v (.bool true)),(48,.v (.bool (!(optionsOk d2))))] (by kernel_rfl) ?_
  refine xl_split 48 (b := !(optionsOk d2)) (by kernel_rfl) (fun h14 => ?_) (fun h14 => ?_)
  have h14n := not_t h14
  refine xl_endS [2] [(2,.v (.bool true))] (by kernel_rfl) ?_
  show Wk _ _
  try rw [h5]
  try rw [h6]
  try rw [h12]
  try rw [h13]
  try rw [h14]
  exact wk_forget 2 0 [2] (by kernel_rfl) (by kernel_rfl) (by kernel_rfl)
  have h14n := not_f h14
  have h14nw := optionsOk_bd (by simpa using h14n)
  obtain ⟨h14nw0,h14nw1⟩ := h14nw
  refine xl_callS 1 [44,48,49] [(44,.v (.bool true)),(48,.v (.bool false)),(49,.v (.agg (optL (keptOptions d2)).toArray))] 12 [.agg (optL (keptOptions d2)).toArray] (some 50) (by kernel_rfl) rfl (by kernel_rfl) rfl (by kernel_rfl) (xc_b fun ww hf => iOptionsOk_c ((keptOptions d2).mss) ((keptOptions d2).scale) ((keptOptions d2).sack) ((keptOptions d2).stamp) ((keptOptions d2).val) ((keptOptions d2).echo) ww ) ?_
  intro _
  refine xl_endS [2] [(2,.v (.bool (optionsOk (keptOptions d2))))] (by kernel_rfl) ?_
  show Wk _ _
  try rw [h5]
  try rw [h6]
  try rw [h12]
  try rw [h13]
  try rw [h14]
  exact wk_forget 2 0 [2] (by kernel_rfl) (by kernel_rfl) (by kernel_rfl)
  refine xl_runS 4 [3,4,30,33,37] [(3,.p 0 0),(4,.p 1 0),(30,.v (.bool true)),(33,.v (.bool false)),(37,.v (.bool (((keptOptions d2).scale) == (-1))))] (by kernel_rfl) ?_
  refine xl_split 37 (b := ((keptOptions d2).scale) == (-1)) (by kernel_rfl) (fun h15 => ?_) (fun h15 => ?_)
  have h15p := eqT h15
  refine xl_runS 7 [3,4,44] [(3,.p 0 0),(4,.p 1 0),(44,.v (.bool (!((keptOptions d2).sack))))] (by kernel_rfl) ?_
  refine xl_split 44 (b := !((keptOptions d2).sack)) (by kernel_rfl) (fun h16 => ?_) (fun h16 => ?_)
  have h16n := not_t h16
  refine xl_callS 1 [4,44,45] [(4,.p 1 0),(44,.v (.bool true)),(45,.v (.agg (optL d2).toArray))] 11 [.agg (optL d2).toArray] (some 46) (by kernel_rfl) rfl (by kernel_rfl) rfl (by kernel_rfl) (xc_b fun ww hf => sOptionsOk_c d2.mss d2.scale d2.sack d2.stamp d2.val d2.echo ww ) ?_
  intro _
  refine xl_runS 2 [4,44,48] [(4,.p 1 0),(44,.v (.bool true)),(48,.v (.bool (!(optionsOk d2))))] (by kernel_rfl) ?_
  refine xl_split 48 (b := !(optionsOk d2)) (by kernel_rfl) (fun h17 => ?_) (fun h17 => ?_)
  have h17n := not_t h17
  refine xl_endS [2] [(2,.v (.bool true))] (by kernel_rfl) ?_
  show Wk _ _
  try rw [h5]
  try rw [h6]
  try rw [h12]
  try rw [h13]
  try rw [h15]
  try rw [h16]
  try rw [h17]
  exact wk_forget 2 0 [2] (by kernel_rfl) (by kernel_rfl) (by kernel_rfl)
  have h17n := not_f h17
  have h17nw := optionsOk_bd (by simpa using h17n)
  obtain ⟨h17nw0,h17nw1⟩ := h17nw
  refine xl_callS 1 [44,48,49] [(44,.v (.bool true)),(48,.v (.bool false)),(49,.v (.agg (optL (keptOptions d2)).toArray))] 12 [.agg (optL (keptOptions d2)).toArray] (some 50) (by kernel_rfl) rfl (by kernel_rfl) rfl (by kernel_rfl) (xc_b fun ww hf => iOptionsOk_c ((keptOptions d2).mss) ((keptOptions d2).scale) ((keptOptions d2).sack) ((keptOptions d2).stamp) ((keptOptions d2).val) ((keptOptions d2).echo) ww ) ?_
  intro _
  refine xl_endS [2] [(2,.v (.bool (optionsOk (keptOptions d2))))] (by kernel_rfl) ?_
  show Wk _ _
  try rw [h5]
  try rw [h6]
  try rw [h12]
  try rw [h13]
  try rw [h15]
  try rw [h16]
  try rw [h17]
  exact wk_forget 2 0 [2] (by kernel_rfl) (by kernel_rfl) (by kernel_rfl)
  have h16n := not_f h16
  refine xl_endS [2] [(2,.v (.bool false))] (by kernel_rfl) ?_
  show Wk _ _
  try rw [h5]
  try rw [h6]
  try rw [h12]
  try rw [h13]
  try rw [h15]
  try rw [h16]
  exact wk_forget 2 0 [2] (by kernel_rfl) (by kernel_rfl) (by kernel_rfl)
  have h15p := eqF h15
  refine xl_endS [2] [(2,.v (.bool false))] (by kernel_rfl) ?_
  show Wk _ _
  try rw [h5]
  try rw [h6]
  try rw [h12]
  try rw [h13]
  try rw [h15]
  exact wk_forget 2 0 [2] (by kernel_rfl) (by kernel_rfl) (by kernel_rfl)
  refine xl_endS [2] [(2,.v (.bool false))] (by kernel_rfl) ?_
  show Wk _ _
  try rw [h5]
  try rw [h6]
  try rw [h12]
  exact wk_forget 2 0 [2] (by kernel_rfl) (by kernel_rfl) (by kernel_rfl)
  have h5p := eqF h5
  refine xl_endS [2] [(2,.v (.bool false))] (by kernel_rfl) ?_
  show Wk _ _
  try rw [h5]
  exact wk_forget 2 0 [2] (by kernel_rfl) (by kernel_rfl) (by kernel_rfl)
  refine xw_ret ?_
  exact ⟨[.bool ((((keptOptions d2).mss) == d2.mss) && (if (!d2.stamp) = true then if d2.stamp = true then (!(optionsOk d2)) || (optionsOk (keptOptions d2)) else (((keptOptions d2).scale) == (-1)) && ((!((keptOptions d2).sack)) && ((!(optionsOk d2)) || (optionsOk (keptOptions d2)))) else (optEq (keptOptions d2) d2) && (if d2.stamp = true then (!(optionsOk d2)) || (optionsOk (keptOptions d2)) else (((keptOptions d2).scale) == (-1)) && ((!((keptOptions d2).sack)) && ((!(optionsOk d2)) || (optionsOk (keptOptions d2)))))))],by kernel_rfl,fun w' hb hf => ⟨ret_bool (show ((((keptOptions d2).mss) == d2.mss) && (if (!d2.stamp) = true then if d2.stamp = true then (!(optionsOk d2)) || (optionsOk (keptOptions d2)) else (((keptOptions d2).scale) == (-1)) && ((!((keptOptions d2).sack)) && ((!(optionsOk d2)) || (optionsOk (keptOptions d2)))) else (optEq (keptOptions d2) d2) && (if d2.stamp = true then (!(optionsOk d2)) || (optionsOk (keptOptions d2)) else (((keptOptions d2).scale) == (-1)) && ((!((keptOptions d2).sack)) && ((!(optionsOk d2)) || (optionsOk (keptOptions d2)))))) : Bool) = true from by (have hk1 := kept_law d2; have hk2 := kept_ok d2; grind)),hb⟩⟩

set_option maxRecDepth 100000 in
theorem fnKept_lifted (os : Os) (started : os.Started) (H : Type) (enc : TypeId × Value → H) :
    ReturnsInHanded {} Try.checked os 3 .any (Rows.fnKeptSpec.pre6 enc Try.prog Try.f3 Rows.fnKeptRow.domain false) (Rows.fnKeptSpec.post enc Try.prog Try.f3 false true false false) := by
  refine returnsInHanded_of_change (C := Try.checked) Try.ownK started (by kernel_rfl) Try.func3
    (ChangeSpec.witness6 (enc := enc) (C := Try.checked) false ⟨#[], #[.slice none 0 0], []⟩ 8 (by kernel_rfl) (by kernel_rfl) (by kernel_rfl) (by kernel_rfl)) ?_
  intro W base args ds gs before hval0 hW hcnd _
  have hval : ∀ (j : Nat) t v, Try.f3.params[j]? = some t → args[j]? = some v → Value.okWide Try.prog W .any base t v := hval0
  have hW' := hW
  obtain ⟨p, q, hA0, hV, rfl, hfz, hnd⟩ := hW
  have hA : DataW.TrodAll enc Try.prog W 0 (fun _ => true) true Try.f3.params.toList args.toList ds p := hA0
  rw [Try.params3] at hA hval
  obtain ⟨v0, vs0, d0, ds0, p0, q0, hargs, rfl, rfl, h0, r0⟩ := trodAll_cons hA
  obtain ⟨rfl, rfl, rfl⟩ := trodAll_nil r0
  obtain rfl : args = #[v0] := by cases args; simp_all
  obtain ⟨rfl, rfl⟩ := trodVars_none hV
  clear hA0 hval0
  have g0 := h0
  obtain ⟨l0, L0⟩ := openS_byte (hval 0 _ v0 rfl rfl) g0
  refine (fnKept_walk l0 v0 W L0).mono fun e W' ⟨he, hb⟩ => ?_
  subst he
  have hlt : ∀ x ∈ (p0 ++ ([])) ++ [], x.block < W.heap.size := fun x hx => hW'.lt x hx
  refine ⟨_, rfl, post_of_below (pa := (p0 ++ ([]))) (pv := []) hW' (fun _ _ _ => trodAll_cons_mk (shut_bool Try.underlying4 _) trodAll_mk0) (fun sp hsp => trodAll_cons_mk (WideElems.Trod_stays Try.laidOut (by kernel_rfl) (of_decide_eq_true (by kernel_rfl)) h0 (fun x hx => hb.same (hlt x (List.mem_append_left _ (List.mem_append_left _ hx)))) (fun x hx => hsp x (List.mem_append_left _ (List.mem_append_left _ hx)))) (trodAll_mk0)) (fun _ _ => rfl) rfl hb (ok_one (by kernel_rfl) rfl (okWide_bool_mk Try.underlying4 _))⟩

theorem fnKept_over : Rows.fnKeptRow.holds Try.pinned (OpenSpec.ofChange Rows.fnKeptSpec) :=
  OpenClaim.holds_of_wide 3 Try.f3 rfl rfl rfl rfl rfl rfl rfl ⟨rfl, rfl, rfl, rfl, rfl⟩ rfl rfl rfl rfl rfl (by kernel_rfl) Try.func3 (by kernel_rfl)
    (of_decide_eq_true (by kernel_rfl)) (by unfold Func.isWrapper; first | (rw [if_pos (by decide +kernel)]; kernel_rfl) | (rw [if_neg (by decide +kernel)]; exact ⟨rfl, rfl⟩))
    (fun os started H enc _ => fnKept_lifted os started H enc)

theorem fnKept_holds : Rows.FnKeptSaid := fnKept_over
#print axioms fnKept_holds
end Go.Proofs.Ytcoppgllfipbeaa
