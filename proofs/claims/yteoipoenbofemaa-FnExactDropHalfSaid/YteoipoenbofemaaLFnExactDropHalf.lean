/- The law FnExactDropHalf holds: for every argument the program's function answers true and leaves its arguments as they were. Conditions: none beyond the given row's. -/
import Derived.Test.YteoipoenbofemaaZ1
namespace Go.Proofs.Yteoipoenbofemaa
open Go.RowKit Go.ChangeShapes Go.WideShapes Go.ChangeAt
set_option linter.unusedVariables false
set_option linter.unusedSimpArgs false

set_option maxRecDepth 100000 in
set_option maxHeartbeats 2000000 in
theorem fnExactDropHalf_walk (l : List Hlf) (lV : Value) (t : Tup) (w : World) (hl_lV : Sl w lV 13 (l.map hlfCells)) : Calls Try.prog 3 #[lV, .agg (tupL t).toArray] w fun e w' => e = .returned (.bool true) ∧ Below w.heap.size w w' := by
  obtain ⟨Al,Cl,hvl⟩ := hl_lV.form
  rw [List.length_map] at hvl; subst hvl
  have hnl := hl_lV.len; rw [List.length_map] at hnl
  have hql := Sl.capLe hl_lV
  refine x_calls (args := [.slice Al l.length Cl,.agg (tupL t).toArray]) (fn := Try.f3) [slF (.slice Al l.length Cl) 13 (l.map hlfCells)] Try.func3 rfl Try.ntmps3 rfl (by simp only [List.mem_cons,List.not_mem_nil,or_false,forall_eq_or_imp,forall_eq]; exact ⟨rfl,hl_lV⟩) ?_
  refine xw_seq ?_
  refine xw_region ?_
  refine xl_end [0,3] ⟨[(0,.v (.slice Al l.length Cl)),(3,.p 0 0)],[⟨24,tupL t⟩],[],[slF (.slice Al l.length Cl) 13 (l.map hlfCells)]⟩ (by kernel_rfl) ?_
  refine xw_seq ?_
  refine xw_region ?_
  refine xl_endS [0,3,5] [(0,.v (.slice Al l.length Cl)),(3,.p 0 0),(5,.v (.int .i64 1048576))] (by kernel_rfl) ?_
  refine xw_seq ?_
  refine xw_region ?_
  refine xl_callS 2 [0,3,5,13,14] [(0,.v (.slice Al l.length Cl)),(3,.p 0 0),(5,.v (.int .i64 1048576)),(13,.v (.slice Al l.length Cl)),(14,.v (.int .i64 1048576))] 14 [.slice Al l.length Cl,.int .i64 1048576] (some 15) (by kernel_rfl) rfl (by kernel_rfl) rfl (by kernel_rfl) (xc_s fun ww hf => szHalfS_c (.slice Al l.length Cl) l 1048576 ww (hf (slF (.slice Al l.length Cl) 13 (l.map hlfCells)) (by simp)) (by omega) (by omega)) ?_
  intro _
  refine xl_endS [0,3,5] [(0,.v (.slice Al l.length Cl)),(3,.p 0 0),(5,.v (.int .i64 (if (1048576 : Int) < l.length then -1 else (1048576 : Int) - l.length)))] (by kernel_rfl) ?_
  refine xw_seq ?_
  refine xw_seq ?_
  refine xw_region ?_
  refine xl_endS [0,3,17] [(0,.v (.slice Al l.length Cl)),(3,.p 0 0),(17,.v (.bool (decide ((if (1048576 : Int) < l.length then -1 else (1048576 : Int) - l.length) < 0))))] (by kernel_rfl) ?_
  refine xw_cond (b := decide ((if (1048576 : Int) < l.length then -1 else (1048576 : Int) - l.length) < 0)) (by kernel_rfl) (fun h1 => ?_) (fun h1 => ?_)
  have h1p : ((if (1048576 : Int) < l.length then -1 else (1048576 : Int) - l.length) < 0) := of_decide_eq_true h1
  refine xw_seq ?_
  refine xw_region ?_
  refine xl_endS [4] [(4,.v (.bool true))] (by kernel_rfl) ?_
  refine xw_ret ?_
  exact ⟨[.bool true],by kernel_rfl,fun w' hb hf => ⟨rfl,hb⟩⟩
  have h1p : ¬ ((if (1048576 : Int) < l.length then -1 else (1048576 : Int) - l.length) < 0) := of_decide_eq_false h1
  have hsz_l : l.length ≤ 1048576 := by by_cases hh : (1048576 : Int) < (l.length : Int) <;> simp [hh] at h1; omega
  refine xw_skip ?_
  refine xw_seq ?_
  refine xe_region [] (by kernel_rfl) (fun ρ σ => ?_)
  refine xe_tkS [0,2] [20,18,0,3] 4 [(20,.v (.agg (tupL t).toArray)),(18,.v (.slice Al l.length Cl)),(0,.v (.slice Al l.length Cl)),(3,.p 0 0)] (fun _ _ h => h) rfl (by kernel_rfl) ?_
  refine xe_all [1] (by kernel_rfl) (by simp) ?_
  refine xs_call 1 16 [.slice Al l.length Cl] (some 19) rfl (by kernel_rfl) rfl (by kernel_rfl) (xc_on (m := l.length) (F := fun v' => v') (List.length_map ..) fun ww hf => toHalfS_c (.slice Al l.length Cl) l ww (hf (slF (.slice Al l.length Cl) 13 (l.map hlfCells)) (by simp)) (by omega)) ?_
  rintro ⟨v2a,v2c⟩
  refine xe_all [3] (by kernel_rfl) (by simp) ?_
  refine xs_call 3 17 [.agg (tupL t).toArray] (some 21) rfl (by kernel_rfl) rfl (by kernel_rfl) (xc_b fun ww hf => toTuple_c t.ip t.port t.my ww) ?_
  intro _
  refine xe_all [4] (by kernel_rfl) (by simp) ?_
  refine xs_call 4 15 [.slice v2a l.length v2c,.agg (tupL t).toArray] (some 22) rfl (by kernel_rfl) rfl (by kernel_rfl) (xc_r fun ww hw hf => ysDropHalf_c l (.slice v2a l.length v2c) t ww (Own.sl (hf (ownF w.heap.size (.slice v2a l.length v2c) 13 (l.map hlfCells)) (by simp))) (by assumption) w.heap.size hw) ?_
  rintro ⟨v3a,v3c⟩
  have hbd4 : (dropHalf l t).length ≤ 1048576 := dropHalf_bd _ _  (by omega)
  refine xe_tkS [5] [6,0,3] 0 [(6,.v (.slice v3a ((dropHalf l t).length) v3c)),(0,.v (.slice Al l.length Cl)),(3,.p 0 0)] (fun _ _ h => h) rfl (by kernel_rfl) ?_
  refine xe_done (by kernel_rfl) ?_
  refine xw_seq ?_
  refine xw_region ?_
  refine xl_callS 1 [0,3,6,23] [(0,.v (.slice Al l.length Cl)),(3,.p 0 0),(6,.v (.slice v3a ((dropHalf l t).length) v3c)),(23,.v (.slice Al l.length Cl))] 16 [.slice Al l.length Cl] (some 24) (by kernel_rfl) rfl (by kernel_rfl) rfl (by kernel_rfl) (xc_on (m := l.length) (F := fun v' => v') (List.length_map ..) fun ww hf => toHalfS_c (.slice Al l.length Cl) l ww (hf (slF (.slice Al l.length Cl) 13 (l.map hlfCells)) (by simp)) (by omega)) ?_
  rintro ⟨v5a,v5c⟩
  refine xl_endS [0,3,6,7] [(0,.v (.slice Al l.length Cl)),(3,.p 0 0),(6,.v (.slice v3a ((dropHalf l t).length) v3c)),(7,.v (.slice v5a l.length v5c))] (by kernel_rfl) ?_
  refine xw_seq ?_
  refine xw_region ?_
  refine xl_callS 2 [0,3,6,7,25,26] [(0,.v (.slice Al l.length Cl)),(3,.p 0 0),(6,.v (.slice v3a ((dropHalf l t).length) v3c)),(7,.v (.slice v5a l.length v5c)),(25,.v (.slice v5a l.length v5c)),(26,.v (.agg (tupL t).toArray))] 17 [.agg (tupL t).toArray] (some 27) (by kernel_rfl) rfl (by kernel_rfl) rfl (by kernel_rfl) (xc_b fun ww hf => toTuple_c t.ip t.port t.my ww) ?_
  intro _
  refine xl_callS 0 [0,3,6,7,25,27] [(0,.v (.slice Al l.length Cl)),(3,.p 0 0),(6,.v (.slice v3a ((dropHalf l t).length) v3c)),(7,.v (.slice v5a l.length v5c)),(25,.v (.slice v5a l.length v5c)),(27,.v (.agg (tupL t).toArray))] 18 [.slice v5a l.length v5c,.agg (tupL t).toArray] (some 28) (by kernel_rfl) rfl (by kernel_rfl) rfl (by kernel_rfl) (xc_r fun ww hw hf => yiDropHalf_c l (.slice v5a l.length v5c) t ww (Own.sl (hf (ownF w.heap.size (.slice v5a l.length v5c) 13 (l.map hlfCells)) (by simp))) (by assumption) w.heap.size hw) ?_
  rintro ⟨v6a,v6c⟩
  have hbd7 : (dropHalf l t).length ≤ 1048576 := dropHalf_bd _ _  (by omega)
  refine xl_endS [0,3,6,7,8] [(0,.v (.slice Al l.length Cl)),(3,.p 0 0),(6,.v (.slice v3a ((dropHalf l t).length) v3c)),(7,.v (.slice v5a l.length v5c)),(8,.v (.slice v6a ((dropHalf l t).length) v6c))] (by kernel_rfl) ?_
  refine xw_seq ?_
  refine xw_seq ?_
  refine xw_region ?_
  refine xl_callS 2 [0,3,6,7,8,29,30] [(0,.v (.slice Al l.length Cl)),(3,.p 0 0),(6,.v (.slice v3a ((dropHalf l t).length) v3c)),(7,.v (.slice v5a l.length v5c)),(8,.v (.slice v6a ((dropHalf l t).length) v6c)),(29,.v (.slice v6a ((dropHalf l t).length) v6c)),(30,.v (.slice v3a ((dropHalf l t).length) v3c))] 19 [.slice v6a ((dropHalf l t).length) v6c,.slice v3a ((dropHalf l t).length) v3c] (some 31) (by kernel_rfl) rfl (by kernel_rfl) rfl (by kernel_rfl) (xc_b fun ww hf => eqHalfS_c (.slice v6a ((dropHalf l t).length) v6c) (.slice v3a ((dropHalf l t).length) v3c) (dropHalf l t) ww (Own.sl (hf (ownF w.heap.size (.slice v6a ((dropHalf l t).length) v6c) 13 ((dropHalf l t).map hlfCells)) (by simp))) (Own.sl (hf (ownF w.heap.size (.slice v3a ((dropHalf l t).length) v3c) 13 ((dropHalf l t).map hlfCells)) (by simp)))) ?_
  intro _
  refine xl_endS [0,3,6,7,8,32] [(0,.v (.slice Al l.length Cl)),(3,.p 0 0),(6,.v (.slice v3a ((dropHalf l t).length) v3c)),(7,.v (.slice v5a l.length v5c)),(8,.v (.slice v6a ((dropHalf l t).length) v6c)),(32,.v (.bool false))] (by kernel_rfl) ?_
  refine xw_false (by kernel_rfl) ?_
  refine xw_skip ?_
  refine xw_seq ?_
  refine xw_seq ?_
  refine xw_region ?_
  refine xl_callS 2 [0,3,6,7,8,33,34] [(0,.v (.slice Al l.length Cl)),(3,.p 0 0),(6,.v (.slice v3a ((dropHalf l t).length) v3c)),(7,.v (.slice v5a l.length v5c)),(8,.v (.slice v6a ((dropHalf l t).length) v6c)),(33,.v (.slice v5a l.length v5c)),(34,.v (.slice Al l.length Cl))] 16 [.slice Al l.length Cl] (some 35) (by kernel_rfl) rfl (by kernel_rfl) rfl (by kernel_rfl) (xc_on (m := l.length) (F := fun v' => v') (List.length_map ..) fun ww hf => toHalfS_c (.slice Al l.length Cl) l ww (hf (slF (.slice Al l.length Cl) 13 (l.map hlfCells)) (by simp)) (by omega)) ?_
  rintro ⟨v8a,v8c⟩
  refine xl_callS 0 [0,3,6,7,8,33,35] [(0,.v (.slice Al l.length Cl)),(3,.p 0 0),(6,.v (.slice v3a ((dropHalf l t).length) v3c)),(7,.v (.slice v5a l.length v5c)),(8,.v (.slice v6a ((dropHalf l t).length) v6c)),(33,.v (.slice v5a l.length v5c)),(35,.v (.slice v8a l.length v8c))] 19 [.slice v5a l.length v5c,.slice v8a l.length v8c] (some 36) (by kernel_rfl) rfl (by kernel_rfl) rfl (by kernel_rfl) (xc_b fun ww hf => eqHalfS_c (.slice v5a l.length v5c) (.slice v8a l.length v8c) l ww (Own.sl (hf (ownF w.heap.size (.slice v5a l.length v5c) 13 (l.map hlfCells)) (by simp))) (Own.sl (hf (ownF w.heap.size (.slice v8a l.length v8c) 13 (l.map hlfCells)) (by simp)))) ?_
  intro _
  refine xl_endS [0,3,6,7,8,37] [(0,.v (.slice Al l.length Cl)),(3,.p 0 0),(6,.v (.slice v3a ((dropHalf l t).length) v3c)),(7,.v (.slice v5a l.length v5c)),(8,.v (.slice v6a ((dropHalf l t).length) v6c)),(37,.v (.bool false))] (by kernel_rfl) ?_
  refine xw_false (by kernel_rfl) ?_
  refine xw_skip ?_
  refine xw_seq ?_
  refine xw_region ?_
  refine xl_endS [0,3,6,7,8,9] [(0,.v (.slice Al l.length Cl)),(3,.p 0 0),(6,.v (.slice v3a ((dropHalf l t).length) v3c)),(7,.v (.slice v5a l.length v5c)),(8,.v (.slice v6a ((dropHalf l t).length) v6c)),(9,.v (.int .i64 1))] (by kernel_rfl) ?_
  refine xw_seq ?_
  refine xw_region ?_
  refine xl_callWS 2 [0,3,6,8,9,38,39] [(0,.v (.slice Al l.length Cl)),(3,.p 0 0),(6,.v (.slice v3a ((dropHalf l t).length) v3c)),(8,.v (.slice v6a ((dropHalf l t).length) v6c)),(9,.v (.int .i64 1)),(38,.v (.slice v5a l.length v5c)),(39,.v (.int .i64 1))] 20 [.slice v5a l.length v5c,.int .i64 1] (some 40) 2 (ownF w.heap.size (.slice v5a l.length v5c) 13 (l.map hlfCells)) (by kernel_rfl) rfl (by kernel_rfl) rfl (by kernel_rfl) rfl rfl (fun ww b h hb => vblk_lo h hb) (by kernel_rfl) (xcm_own marks_ne fun ww hw hf => ymarkHalfS_c (.slice v5a l.length v5c) l 1 ww w.heap.size hw (hf (ownF w.heap.size (.slice v5a l.length v5c) 13 (l.map hlfCells)) (by simp)) (by omega) (by omega) (by omega)) ?_
  intro _
  refine xl_endS [0,3,6,8,9] [(0,.v (.slice Al l.length Cl)),(3,.p 0 0),(6,.v (.slice v3a ((dropHalf l t).length) v3c)),(8,.v (.slice v6a ((dropHalf l t).length) v6c)),(9,.v (.int .i64 (1 + 13 * (l.length : Int))))] (by kernel_rfl) ?_
  refine xw_seq ?_
  refine xw_seq ?_
  refine xw_region ?_
  refine xl_runS 3 [0,3,6,8,43] [(0,.v (.slice Al l.length Cl)),(3,.p 0 0),(6,.v (.slice v3a ((dropHalf l t).length) v3c)),(8,.v (.slice v6a ((dropHalf l t).length) v6c)),(43,.v (.bool (decide ((1 + 13 * (l.length : Int)) < 0))))] (by kernel_rfl) ?_
  refine xl_split 43 (b := decide ((1 + 13 * (l.length : Int)) < 0)) (by kernel_rfl) (fun h9 => ?_) (fun h9 => ?_)
  have h9p : ((1 + 13 * (l.length : Int)) < 0) := of_decide_eq_true h9
  exfalso; have := of_decide_eq_true h9; omega
  have h9p : ¬ ((1 + 13 * (l.length : Int)) < 0) := of_decide_eq_false h9
  refine xl_callS 2 [0,3,6,8,43,44,45] [(0,.v (.slice Al l.length Cl)),(3,.p 0 0),(6,.v (.slice v3a ((dropHalf l t).length) v3c)),(8,.v (.slice v6a ((dropHalf l t).length) v6c)),(43,.v (.bool false)),(44,.v (.slice v6a ((dropHalf l t).length) v6c)),(45,.v (.slice v3a ((dropHalf l t).length) v3c))] 19 [.slice v6a ((dropHalf l t).length) v6c,.slice v3a ((dropHalf l t).length) v3c] (some 46) (by kernel_rfl) rfl (by kernel_rfl) rfl (by kernel_rfl) (xc_b fun ww hf => eqHalfS_c (.slice v6a ((dropHalf l t).length) v6c) (.slice v3a ((dropHalf l t).length) v3c) (dropHalf l t) ww (Own.sl (hf (ownF w.heap.size (.slice v6a ((dropHalf l t).length) v6c) 13 ((dropHalf l t).map hlfCells)) (by simp))) (Own.sl (hf (ownF w.heap.size (.slice v3a ((dropHalf l t).length) v3c) 13 ((dropHalf l t).map hlfCells)) (by simp)))) ?_
  intro _
  refine xl_endS [0,3,6,8,48] [(0,.v (.slice Al l.length Cl)),(3,.p 0 0),(6,.v (.slice v3a ((dropHalf l t).length) v3c)),(8,.v (.slice v6a ((dropHalf l t).length) v6c)),(48,.v (.bool false))] (by kernel_rfl) ?_
  refine xw_false (by kernel_rfl) ?_
  refine xw_skip ?_
  refine xw_seq ?_
  refine xw_region ?_
  refine xl_endS [0,3,6,8,10] [(0,.v (.slice Al l.length Cl)),(3,.p 0 0),(6,.v (.slice v3a ((dropHalf l t).length) v3c)),(8,.v (.slice v6a ((dropHalf l t).length) v6c)),(10,.v (.int .i64 1))] (by kernel_rfl) ?_
  refine xw_seq ?_
  refine xw_region ?_
  refine xl_callWS 2 [0,3,6,8,10,49,50] [(0,.v (.slice Al l.length Cl)),(3,.p 0 0),(6,.v (.slice v3a ((dropHalf l t).length) v3c)),(8,.v (.slice v6a ((dropHalf l t).length) v6c)),(10,.v (.int .i64 1)),(49,.v (.slice v6a ((dropHalf l t).length) v6c)),(50,.v (.int .i64 1))] 20 [.slice v6a ((dropHalf l t).length) v6c,.int .i64 1] (some 51) 2 (ownF w.heap.size (.slice v6a ((dropHalf l t).length) v6c) 13 ((dropHalf l t).map hlfCells)) (by kernel_rfl) rfl (by kernel_rfl) rfl (by kernel_rfl) rfl rfl (fun ww b h hb => vblk_lo h hb) (by kernel_rfl) (xcm_own marks_ne fun ww hw hf => ymarkHalfS_c (.slice v6a ((dropHalf l t).length) v6c) (dropHalf l t) 1 ww w.heap.size hw (hf (ownF w.heap.size (.slice v6a ((dropHalf l t).length) v6c) 13 ((dropHalf l t).map hlfCells)) (by simp)) (by omega) (by omega) (by omega)) ?_
  intro _
  refine xl_endS [0,3,6,8,10] [(0,.v (.slice Al l.length Cl)),(3,.p 0 0),(6,.v (.slice v3a ((dropHalf l t).length) v3c)),(8,.v (.slice v6a ((dropHalf l t).length) v6c)),(10,.v (.int .i64 (1 + 13 * ((dropHalf l t).length : Int))))] (by kernel_rfl) ?_
  refine xw_seq ?_
  refine xw_region ?_
  refine xl_endS [0,3,6,8,10,11] [(0,.v (.slice Al l.length Cl)),(3,.p 0 0),(6,.v (.slice v3a ((dropHalf l t).length) v3c)),(8,.v (.slice v6a ((dropHalf l t).length) v6c)),(10,.v (.int .i64 (1 + 13 * ((dropHalf l t).length : Int)))),(11,.v (.int .i64 1))] (by kernel_rfl) ?_
  refine xw_seq ?_
  refine xw_region ?_
  refine xl_callS 2 [0,3,6,8,10,11,52,53] [(0,.v (.slice Al l.length Cl)),(3,.p 0 0),(6,.v (.slice v3a ((dropHalf l t).length) v3c)),(8,.v (.slice v6a ((dropHalf l t).length) v6c)),(10,.v (.int .i64 (1 + 13 * ((dropHalf l t).length : Int)))),(11,.v (.int .i64 1)),(52,.v (.slice v6a ((dropHalf l t).length) v6c)),(53,.v (.int .i64 1))] 21 [.slice v6a ((dropHalf l t).length) v6c,.int .i64 1] (some 54) (by kernel_rfl) rfl (by kernel_rfl) rfl (by kernel_rfl) (xc_b fun ww hf => yheldHalfS_m (dropHalf l t).length  (.slice v6a ((dropHalf l t).length) v6c) 1 ww (Own.sl (hf (ownF w.heap.size (.slice v6a ((dropHalf l t).length) v6c) 13 ((marks mkH 13 1 (dropHalf l t).length).map hlfCells)) (by simp))) (by omega) (by omega) (by omega)) ?_
  intro _
  refine xl_endS [0,3,6,8,10,11] [(0,.v (.slice Al l.length Cl)),(3,.p 0 0),(6,.v (.slice v3a ((dropHalf l t).length) v3c)),(8,.v (.slice v6a ((dropHalf l t).length) v6c)),(10,.v (.int .i64 (1 + 13 * ((dropHalf l t).length : Int)))),(11,.v (.int .i64 (1 + 13 * ((dropHalf l t).length : Int))))] (by kernel_rfl) ?_
  refine xw_seq ?_
  refine xw_seq ?_
  refine xw_region ?_
  refine xl_endS [0,3,6,8,10,11,56] [(0,.v (.slice Al l.length Cl)),(3,.p 0 0),(6,.v (.slice v3a ((dropHalf l t).length) v3c)),(8,.v (.slice v6a ((dropHalf l t).length) v6c)),(10,.v (.int .i64 (1 + 13 * ((dropHalf l t).length : Int)))),(11,.v (.int .i64 (1 + 13 * ((dropHalf l t).length : Int)))),(56,.v (.bool (decide ((1 + 13 * ((dropHalf l t).length : Int)) < 0))))] (by kernel_rfl) ?_
  refine xw_cond (b := decide ((1 + 13 * ((dropHalf l t).length : Int)) < 0)) (by kernel_rfl) (fun h10 => ?_) (fun h10 => ?_)
  have h10p : ((1 + 13 * ((dropHalf l t).length : Int)) < 0) := of_decide_eq_true h10
  exfalso; have := of_decide_eq_true h10; omega
  have h10p : ¬ ((1 + 13 * ((dropHalf l t).length : Int)) < 0) := of_decide_eq_false h10
  refine xw_skip ?_
  refine xw_seq ?_
  refine xw_seq ?_
  refine xw_region ?_
  refine xl_endS [0,3,6,8,10,59] [(0,.v (.slice Al l.length Cl)),(3,.p 0 0),(6,.v (.slice v3a ((dropHalf l t).length) v3c)),(8,.v (.slice v6a ((dropHalf l t).length) v6c)),(10,.v (.int .i64 (1 + 13 * ((dropHalf l t).length : Int)))),(59,.v (.bool ((1 + 13 * ((dropHalf l t).length : Int)) != (1 + 13 * ((dropHalf l t).length : Int)))))] (by kernel_rfl) ?_
  refine xw_cond (b := (1 + 13 * ((dropHalf l t).length : Int)) != (1 + 13 * ((dropHalf l t).length : Int))) (by kernel_rfl) (fun h11 => ?_) (fun h11 => ?_)
  simp at h11
  have h11p := neF h11
  refine xw_skip ?_
  refine xw_seq ?_
  refine xe_region [] (by kernel_rfl) (fun ρ σ => ?_)
  refine xe_tkS [0,2] [62,60,6,8,10] 4 [(62,.v (.agg (tupL t).toArray)),(60,.v (.slice Al l.length Cl)),(6,.v (.slice v3a ((dropHalf l t).length) v3c)),(8,.v (.slice v6a ((dropHalf l t).length) v6c)),(10,.v (.int .i64 (1 + 13 * ((dropHalf l t).length : Int))))] (fun _ _ h => h) rfl (by kernel_rfl) ?_
  refine xe_all [1] (by kernel_rfl) (by simp) ?_
  refine xs_call 1 16 [.slice Al l.length Cl] (some 61) rfl (by kernel_rfl) rfl (by kernel_rfl) (xc_on (m := l.length) (F := fun v' => v') (List.length_map ..) fun ww hf => toHalfS_c (.slice Al l.length Cl) l ww (hf (slF (.slice Al l.length Cl) 13 (l.map hlfCells)) (by simp)) (by omega)) ?_
  rintro ⟨v12a,v12c⟩
  refine xe_all [3] (by kernel_rfl) (by simp) ?_
  refine xs_call 3 17 [.agg (tupL t).toArray] (some 63) rfl (by kernel_rfl) rfl (by kernel_rfl) (xc_b fun ww hf => toTuple_c t.ip t.port t.my ww) ?_
  intro _
  refine xe_all [4] (by kernel_rfl) (by simp) ?_
  refine xs_call 4 18 [.slice v12a l.length v12c,.agg (tupL t).toArray] (some 64) rfl (by kernel_rfl) rfl (by kernel_rfl) (xc_r fun ww hw hf => yiDropHalf_c l (.slice v12a l.length v12c) t ww (Own.sl (hf (ownF w.heap.size (.slice v12a l.length v12c) 13 (l.map hlfCells)) (by simp))) (by assumption) w.heap.size hw) ?_
  rintro ⟨v13a,v13c⟩
  have hbd14 : (dropHalf l t).length ≤ 1048576 := dropHalf_bd _ _  (by omega)
  refine xe_tkS [5] [12,6,8,10] 0 [(12,.v (.slice v13a ((dropHalf l t).length) v13c)),(6,.v (.slice v3a ((dropHalf l t).length) v3c)),(8,.v (.slice v6a ((dropHalf l t).length) v6c)),(10,.v (.int .i64 (1 + 13 * ((dropHalf l t).length : Int))))] (fun _ _ h => h) rfl (by kernel_rfl) ?_
  refine xe_done (by kernel_rfl) ?_
  refine xw_seq ?_
  refine xw_seq ?_
  refine xw_region ?_
  refine xl_callS 2 [8,10,65,66] [(8,.v (.slice v6a ((dropHalf l t).length) v6c)),(10,.v (.int .i64 (1 + 13 * ((dropHalf l t).length : Int)))),(65,.v (.slice v13a ((dropHalf l t).length) v13c)),(66,.v (.slice v3a ((dropHalf l t).length) v3c))] 19 [.slice v13a ((dropHalf l t).length) v13c,.slice v3a ((dropHalf l t).length) v3c] (some 67) (by kernel_rfl) rfl (by kernel_rfl) rfl (by kernel_rfl) (xc_b fun ww hf => eqHalfS_c (.slice v13a ((dropHalf l t).length) v13c) (.slice v3a ((dropHalf l t).length) v3c) (dropHalf l t) ww (Own.sl (hf (ownF w.heap.size (.slice v13a ((dropHalf l t).length) v13c) 13 ((dropHalf l t).map hlfCells)) (by simp))) (Own.sl (hf (ownF w.heap.size (.slice v3a ((dropHalf l t).length) v3c) 13 ((dropHalf l t).map hlfCells)) (by simp)))) ?_
  intro _
  refine xl_endS [8,10,68] [(8,.v (.slice v6a ((dropHalf l t).length) v6c)),(10,.v (.int .i64 (1 + 13 * ((dropHalf l t).length : Int)))),(68,.v (.bool false))] (by kernel_rfl) ?_
  refine xw_false (by kernel_rfl) ?_
  refine xw_skip ?_
  refine xw_seq ?_
  refine xw_region ?_
  refine xl_endS [8,10,11] [(8,.v (.slice v6a ((dropHalf l t).length) v6c)),(10,.v (.int .i64 (1 + 13 * ((dropHalf l t).length : Int)))),(11,.v (.int .i64 1))] (by kernel_rfl) ?_
  refine xw_seq ?_
  refine xw_region ?_
  refine xl_callS 2 [10,11,69,70] [(10,.v (.int .i64 (1 + 13 * ((dropHalf l t).length : Int)))),(11,.v (.int .i64 1)),(69,.v (.slice v6a ((dropHalf l t).length) v6c)),(70,.v (.int .i64 1))] 21 [.slice v6a ((dropHalf l t).length) v6c,.int .i64 1] (some 71) (by kernel_rfl) rfl (by kernel_rfl) rfl (by kernel_rfl) (xc_b fun ww hf => yheldHalfS_m (dropHalf l t).length  (.slice v6a ((dropHalf l t).length) v6c) 1 ww (Own.sl (hf (ownF w.heap.size (.slice v6a ((dropHalf l t).length) v6c) 13 ((marks mkH 13 1 (dropHalf l t).length).map hlfCells)) (by simp))) (by omega) (by omega) (by omega)) ?_
  intro _
  refine xl_endS [10,11] [(10,.v (.int .i64 (1 + 13 * ((dropHalf l t).length : Int)))),(11,.v (.int .i64 (1 + 13 * ((dropHalf l t).length : Int))))] (by kernel_rfl) ?_
  refine xw_seq ?_
  refine xw_seq ?_
  refine xw_region ?_
  refine xl_endS [10,11,73] [(10,.v (.int .i64 (1 + 13 * ((dropHalf l t).length : Int)))),(11,.v (.int .i64 (1 + 13 * ((dropHalf l t).length : Int)))),(73,.v (.bool (decide ((1 + 13 * ((dropHalf l t).length : Int)) < 0))))] (by kernel_rfl) ?_
  refine xw_cond (b := decide ((1 + 13 * ((dropHalf l t).length : Int)) < 0)) (by kernel_rfl) (fun h15 => ?_) (fun h15 => ?_)
  have h15p : ((1 + 13 * ((dropHalf l t).length : Int)) < 0) := of_decide_eq_true h15
  exfalso; have := of_decide_eq_true h15; omega
  have h15p : ¬ ((1 + 13 * ((dropHalf l t).length : Int)) < 0) := of_decide_eq_false h15
  refine xw_skip ?_
  refine xw_seq ?_
  refine xw_seq ?_
  refine xw_region ?_
  refine xl_endS [76] [(76,.v (.bool ((1 + 13 * ((dropHalf l t).length : Int)) != (1 + 13 * ((dropHalf l t).length : Int)))))] (by kernel_rfl) ?_
  refine xw_cond (b := (1 + 13 * ((dropHalf l t).length : Int)) != (1 + 13 * ((dropHalf l t).length : Int))) (by kernel_rfl) (fun h16 => ?_) (fun h16 => ?_)
  simp at h16
  have h16p := neF h16
  refine xw_skip ?_
  refine xw_seq ?_
  refine xw_region ?_
  refine xl_endS [4] [(4,.v (.bool true))] (by kernel_rfl) ?_
  refine xw_ret ?_
  exact ⟨[.bool true],by kernel_rfl,fun w' hb hf => ⟨rfl,hb⟩⟩

set_option maxRecDepth 100000 in
theorem fnExactDropHalf_lifted (os : Os) (started : os.Started) (H : Type) (enc : TypeId × Value → H) :
    ReturnsInHanded {} Try.checked os 3 .any (Rows.fnExactDropHalfSpec.pre6 enc Try.prog Try.f3 Rows.fnExactDropHalfRow.domain false) (Rows.fnExactDropHalfSpec.post enc Try.prog Try.f3 false true false false) := by
  refine returnsInHanded_of_change (C := Try.checked) Try.ownK started (by kernel_rfl) Try.func3
    (ChangeSpec.witness6 (enc := enc) (C := Try.checked) false ⟨#[], #[.slice none 0 0, .agg #[.int .i64 0, .int .i64 0, .int .i64 0]], []⟩ 8 (by kernel_rfl) (by kernel_rfl) (by kernel_rfl) (by kernel_rfl)) ?_
  intro W base args ds gs before hval0 hW hcnd _
  have hval : ∀ (j : Nat) t v, Try.f3.params[j]? = some t → args[j]? = some v → Value.okWide Try.prog W .any base t v := hval0
  have hW' := hW
  obtain ⟨p, q, hA0, hV, rfl, hfz, hnd⟩ := hW
  have hA : DataW.TrodAll enc Try.prog W 0 (fun _ => true) true Try.f3.params.toList args.toList ds p := hA0
  rw [Try.params3] at hA hval
  obtain ⟨v0, vs0, d0, ds0, p0, q0, hargs, rfl, rfl, h0, r0⟩ := trodAll_cons hA
  obtain ⟨v1, vs1, d1, ds1, p1, q1, rfl, rfl, rfl, h1, r1⟩ := trodAll_cons r0
  obtain ⟨rfl, rfl, rfl⟩ := trodAll_nil r1
  obtain rfl : args = #[v0, v1] := by cases args; simp_all
  obtain ⟨rfl, rfl⟩ := trodVars_none hV
  clear hA0 hval0
  have g0 := h0
  have g1 := h1
  obtain ⟨l0, L0⟩ := openS_HLF (hval 0 _ v0 rfl rfl) g0
  obtain ⟨cs1, rfl, -⟩ := okWide_struct Try.underlying24 (hval 1 _ v1 rfl rfl)
  obtain ⟨fuel1, f1⟩ := g1
  obtain ⟨t_ip, t_port, t_my, e1, F_t_ip, F_t_port, F_t_my⟩ := open_TUP f1
  obtain rfl : cs1 = #[.int .i64 t_ip, .int .i64 t_port, .int .i64 t_my] := by cases cs1; simpa [Value.cells] using e1
  clear e1
  refine (fnExactDropHalf_walk l0 v0 (⟨t_ip, t_port, t_my⟩ : Tup) W L0).mono fun e W' ⟨he, hb⟩ => ?_
  subst he
  have hlt : ∀ x ∈ (p0 ++ (p1 ++ ([]))) ++ [], x.block < W.heap.size := fun x hx => hW'.lt x hx
  refine ⟨_, rfl, post_of_below (pa := (p0 ++ (p1 ++ ([])))) (pv := []) hW' (fun _ _ _ => trodAll_cons_mk (shut_bool Try.underlying4 _) trodAll_mk0) (fun sp hsp => trodAll_cons_mk (WideElems.Trod_stays Try.laidOut (by kernel_rfl) (of_decide_eq_true (by kernel_rfl)) h0 (fun x hx => hb.same (hlt x (List.mem_append_left _ (List.mem_append_left _ hx)))) (fun x hx => hsp x (List.mem_append_left _ (List.mem_append_left _ hx)))) (trodAll_cons_mk (WideElems.Trod_stays Try.laidOut (by kernel_rfl) (of_decide_eq_true (by kernel_rfl)) h1 (fun x hx => hb.same (hlt x (List.mem_append_left _ (List.mem_append_right _ (List.mem_append_left _ hx))))) (fun x hx => hsp x (List.mem_append_left _ (List.mem_append_right _ (List.mem_append_left _ hx))))) (trodAll_mk0))) (fun _ _ => rfl) rfl hb (ok_one (by kernel_rfl) rfl (okWide_bool_mk Try.underlying4 _))⟩

theorem fnExactDropHalf_over : Rows.fnExactDropHalfRow.holds Try.pinned (OpenSpec.ofChange Rows.fnExactDropHalfSpec) :=
  OpenClaim.holds_of_wide 3 Try.f3 rfl rfl rfl rfl rfl rfl rfl ⟨rfl, rfl, rfl, rfl, rfl⟩ rfl rfl rfl rfl rfl (by kernel_rfl) Try.func3 (by kernel_rfl)
    (of_decide_eq_true (by kernel_rfl)) (by unfold Func.isWrapper; first | (rw [if_pos (by decide +kernel)]; kernel_rfl) | (rw [if_neg (by decide +kernel)]; exact ⟨rfl, rfl⟩))
    (fun os started H enc _ => fnExactDropHalf_lifted os started H enc)

theorem fnExactDropHalf_holds : Rows.FnExactDropHalfSaid := fnExactDropHalf_over
#print axioms fnExactDropHalf_holds
end Go.Proofs.Yteoipoenbofemaa
