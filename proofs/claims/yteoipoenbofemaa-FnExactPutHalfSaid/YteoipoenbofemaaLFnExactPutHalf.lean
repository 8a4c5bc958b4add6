/- The law FnExactPutHalf holds: for every argument the program's function answers true and leaves its arguments as they were. Conditions: none beyond the given row's. -/
import Derived.Test.YteoipoenbofemaaZ1
import Derived.Test.YteoipoenbofemaaZ1
namespace Go.Proofs.Yteoipoenbofemaa
open Go.RowKit Go.ChangeShapes Go.WideShapes Go.ChangeAt
set_option linter.unusedVariables false
set_option linter.unusedSimpArgs false

set_option maxRecDepth 100000 in
set_option maxHeartbeats 2000000 in
theorem fnExactPutHalf_walk (l : List Hlf) (lV : Value) (h : Hlf) (most : Int) (w : World) (hl_lV : Sl w lV 13 (l.map hlfCells)) (hi_most : I64 most) : Calls Try.prog 4 #[lV, .agg (hlfL h).toArray, .int .i64 most] w fun e w' => e = .returned (.bool true) ∧ Below w.heap.size w w' := by
  obtain ⟨Al,Cl,hvl⟩ := hl_lV.form
  rw [List.length_map] at hvl; subst hvl
  have hnl := hl_lV.len; rw [List.length_map] at hnl
  unfold I64 at hi_most
  refine x_calls (args := [.slice Al l.length Cl,.agg (hlfL h).toArray,.int .i64 most]) (fn := Try.f4) [slF (.slice Al l.length Cl) 13 (l.map hlfCells)] Try.func4 rfl Try.ntmps4 rfl (by simp only [List.mem_cons,List.not_mem_nil,or_false,forall_eq_or_imp,forall_eq]; exact ⟨rfl,hl_lV⟩) ?_
  refine xw_seq ?_
  refine xw_region ?_
  refine xl_end [0,2,4] ⟨[(0,.v (.slice Al l.length Cl)),(2,.v (.int .i64 most)),(4,.p 0 0)],[⟨37,hlfL h⟩],[],[slF (.slice Al l.length Cl) 13 (l.map hlfCells)]⟩ (by kernel_rfl) ?_
  refine xw_seq ?_
  refine xw_region ?_
  refine xl_endS [0,2,4,7] [(0,.v (.slice Al l.length Cl)),(2,.v (.int .i64 most)),(4,.p 0 0),(7,.v (.int .i64 1048576))] (by kernel_rfl) ?_
  refine xw_seq ?_
  refine xw_region ?_
  refine xl_callS 2 [0,2,4,7,18,19] [(0,.v (.slice Al l.length Cl)),(2,.v (.int .i64 most)),(4,.p 0 0),(7,.v (.int .i64 1048576)),(18,.v (.slice Al l.length Cl)),(19,.v (.int .i64 1048576))] 14 [.slice Al l.length Cl,.int .i64 1048576] (some 20) (by kernel_rfl) rfl (by kernel_rfl) rfl (by kernel_rfl) (xc_s fun ww hf => szHalfS_c (.slice Al l.length Cl) l 1048576 ww (hf (slF (.slice Al l.length Cl) 13 (l.map hlfCells)) (by simp)) (by omega) (by omega)) ?_
  intro _
  refine xl_endS [0,2,4,7] [(0,.v (.slice Al l.length Cl)),(2,.v (.int .i64 most)),(4,.p 0 0),(7,.v (.int .i64 (if (1048576 : Int) < l.length then -1 else (1048576 : Int) - l.length)))] (by kernel_rfl) ?_
  refine xw_seq ?_
  refine xw_seq ?_
  refine xw_region ?_
  refine xl_endS [0,2,4,22] [(0,.v (.slice Al l.length Cl)),(2,.v (.int .i64 most)),(4,.p 0 0),(22,.v (.bool (decide ((if (1048576 : Int) < l.length then -1 else (1048576 : Int) - l.length) < 0))))] (by kernel_rfl) ?_
  refine xw_cond (b := decide ((if (1048576 : Int) < l.length then -1 else (1048576 : Int) - l.length) < 0)) (by kernel_rfl) (fun h1 => ?_) (fun h1 => ?_)
  have h1p : ((if (1048576 : Int) < l.length then -1 else (1048576 : Int) - l.length) < 0) := of_decide_eq_true h1
  refine xw_seq ?_
  refine xw_region ?_
  refine xl_endS [6] [(6,.v (.bool true))] (by kernel_rfl) ?_
  refine xw_ret ?_
  exact ⟨[.bool true],by kernel_rfl,fun w' hb hf => ⟨rfl,hb⟩⟩
  have h1p : ¬ ((if (1048576 : Int) < l.length then -1 else (1048576 : Int) - l.length) < 0) := of_decide_eq_false h1
  have hsz_l : l.length ≤ 1048576 := by by_cases hh : (1048576 : Int) < (l.length : Int) <;> simp [hh] at h1; omega
  refine xw_skip ?_
  refine xw_seq ?_
  refine xe_region [] (by kernel_rfl) (fun ρ σ => ?_)
  refine xe_tkS [0,2,4] [28,26,24,0,2,4] 8 [(28,.v (.int .i64 most)),(26,.v (.agg (hlfL h).toArray)),(24,.v (.slice Al l.length Cl)),(0,.v (.slice Al l.length Cl)),(2,.v (.int .i64 most)),(4,.p 0 0)] (fun _ _ h => h) rfl (by kernel_rfl) ?_
  refine xe_all [1] (by kernel_rfl) (by simp) ?_
  refine xs_call 1 16 [.slice Al l.length Cl] (some 25) rfl (by kernel_rfl) rfl (by kernel_rfl) (xc_on (m := l.length) (F := fun v' => v') (List.length_map ..) fun ww hf => toHalfS_c (.slice Al l.length Cl) l ww (hf (slF (.slice Al l.length Cl) 13 (l.map hlfCells)) (by simp)) (by omega)) ?_
  rintro ⟨v2a,v2c⟩
  refine xe_all [3] (by kernel_rfl) (by simp) ?_
  refine xs_call 3 23 [.agg (hlfL h).toArray] (some 27) rfl (by kernel_rfl) rfl (by kernel_rfl) (xc_b fun ww hf => toHalf_c h.t.ip h.t.port h.t.my h.iss h.irs h.o.mss h.o.scale h.o.sack h.o.stamp h.o.val h.o.echo h.age h.window ww) ?_
  intro _
  refine xe_all [5] (by kernel_rfl) (by simp) ?_
  refine xs_call 5 22 [.slice v2a l.length v2c,.agg (hlfL h).toArray,.int .i64 most] (some 29) rfl (by kernel_rfl) rfl (by kernel_rfl) (xc_r fun ww hw hf => ysPutHalf_c l (.slice v2a l.length v2c) h most ww (Own.sl (hf (ownF w.heap.size (.slice v2a l.length v2c) 13 (l.map hlfCells)) (by simp))) (by assumption) w.heap.size hw) ?_
  rintro ⟨v3a,v3c⟩
  have hbd4 : (putHalf l h most).1.length ≤ 1048576 := putHalf_bd _ _ _  (by omega)
  refine xe_tkS [6,7,8,9,10] [9,8,0,2,4] 0 [(9,.v (.bool ((putHalf l h most).2))),(8,.v (.slice v3a ((putHalf l h most).1.length) v3c)),(0,.v (.slice Al l.length Cl)),(2,.v (.int .i64 most)),(4,.p 0 0)] (fun _ _ h => h) rfl (by kernel_rfl) ?_
  refine xe_done (by kernel_rfl) ?_
  refine xw_seq ?_
  refine xw_region ?_
  refine xl_callS 1 [0,2,4,8,9,32] [(0,.v (.slice Al l.length Cl)),(2,.v (.int .i64 most)),(4,.p 0 0),(8,.v (.slice v3a ((putHalf l h most).1.length) v3c)),(9,.v (.bool ((putHalf l h most).2))),(32,.v (.slice Al l.length Cl))] 16 [.slice Al l.length Cl] (some 33) (by kernel_rfl) rfl (by kernel_rfl) rfl (by kernel_rfl) (xc_on (m := l.length) (F := fun v' => v') (List.length_map ..) fun ww hf => toHalfS_c (.slice Al l.length Cl) l ww (hf (slF (.slice Al l.length Cl) 13 (l.map hlfCells)) (by simp)) (by omega)) ?_
  rintro ⟨v5a,v5c⟩
  refine xl_endS [0,2,4,8,9,10] [(0,.v (.slice Al l.length Cl)),(2,.v (.int .i64 most)),(4,.p 0 0),(8,.v (.slice v3a ((putHalf l h most).1.length) v3c)),(9,.v (.bool ((putHalf l h most).2))),(10,.v (.slice v5a l.length v5c))] (by kernel_rfl) ?_
  refine xw_seq ?_
  refine xw_region ?_
  refine xl_callS 2 [0,2,4,8,9,10,35,36] [(0,.v (.slice Al l.length Cl)),(2,.v (.int .i64 most)),(4,.p 0 0),(8,.v (.slice v3a ((putHalf l h most).1.length) v3c)),(9,.v (.bool ((putHalf l h most).2))),(10,.v (.slice v5a l.length v5c)),(35,.v (.slice v5a l.length v5c)),(36,.v (.agg (hlfL h).toArray))] 23 [.agg (hlfL h).toArray] (some 37) (by kernel_rfl) rfl (by kernel_rfl) rfl (by kernel_rfl) (xc_b fun ww hf => toHalf_c h.t.ip h.t.port h.t.my h.iss h.irs h.o.mss h.o.scale h.o.sack h.o.stamp h.o.val h.o.echo h.age h.window ww) ?_
  intro _
  refine xl_callS 1 [0,2,4,8,9,10,35,37,38] [(0,.v (.slice Al l.length Cl)),(2,.v (.int .i64 most)),(4,.p 0 0),(8,.v (.slice v3a ((putHalf l h most).1.length) v3c)),(9,.v (.bool ((putHalf l h most).2))),(10,.v (.slice v5a l.length v5c)),(35,.v (.slice v5a l.length v5c)),(37,.v (.agg (hlfL h).toArray)),(38,.v (.int .i64 most))] 24 [.slice v5a l.length v5c,.agg (hlfL h).toArray,.int .i64 most] (some 39) (by kernel_rfl) rfl (by kernel_rfl) rfl (by kernel_rfl) (xc_r fun ww hw hf => yiPutHalf_c l (.slice v5a l.length v5c) h most ww (Own.sl (hf (ownF w.heap.size (.slice v5a l.length v5c) 13 (l.map hlfCells)) (by simp))) (by assumption) w.heap.size hw) ?_
  rintro ⟨v6a,v6c⟩
  have hbd7 : (putHalf l h most).1.length ≤ 1048576 := putHalf_bd _ _ _  (by omega)
  refine xl_endS [0,2,4,8,9,10,11,12] [(0,.v (.slice Al l.length Cl)),(2,.v (.int .i64 most)),(4,.p 0 0),(8,.v (.slice v3a ((putHalf l h most).1.length) v3c)),(9,.v (.bool ((putHalf l h most).2))),(10,.v (.slice v5a l.length v5c)),(11,.v (.slice v6a ((putHalf l h most).1.length) v6c)),(12,.v (.bool ((putHalf l h most).2)))] (by kernel_rfl) ?_
  refine xw_seq ?_
  refine xw_seq ?_
  refine xw_region ?_
  refine xl_callS 2 [0,2,4,8,9,10,11,12,42,43] [(0,.v (.slice Al l.length Cl)),(2,.v (.int .i64 most)),(4,.p 0 0),(8,.v (.slice v3a ((putHalf l h most).1.length) v3c)),(9,.v (.bool ((putHalf l h most).2))),(10,.v (.slice v5a l.length v5c)),(11,.v (.slice v6a ((putHalf l h most).1.length) v6c)),(12,.v (.bool ((putHalf l h most).2))),(42,.v (.slice v6a ((putHalf l h most).1.length) v6c)),(43,.v (.slice v3a ((putHalf l h most).1.length) v3c))] 19 [.slice v6a ((putHalf l h most).1.length) v6c,.slice v3a ((putHalf l h most).1.length) v3c] (some 44) (by kernel_rfl) rfl (by kernel_rfl) rfl (by kernel_rfl) (xc_b fun ww hf => eqHalfS_c (.slice v6a ((putHalf l h most).1.length) v6c) (.slice v3a ((putHalf l h most).1.length) v3c) ((putHalf l h most).1) ww (Own.sl (hf (ownF w.heap.size (.slice v6a ((putHalf l h most).1.length) v6c) 13 ((putHalf l h most).1.map hlfCells)) (by simp))) (Own.sl (hf (ownF w.heap.size (.slice v3a ((putHalf l h most).1.length) v3c) 13 ((putHalf l h most).1.map hlfCells)) (by simp)))) ?_
  intro _
  refine xl_endS [0,2,4,8,9,10,11,12,50] [(0,.v (.slice Al l.length Cl)),(2,.v (.int .i64 most)),(4,.p 0 0),(8,.v (.slice v3a ((putHalf l h most).1.length) v3c)),(9,.v (.bool ((putHalf l h most).2))),(10,.v (.slice v5a l.length v5c)),(11,.v (.slice v6a ((putHalf l h most).1.length) v6c)),(12,.v (.bool ((putHalf l h most).2))),(50,.v (.bool (!(((putHalf l h most).2) == ((putHalf l h most).2)))))] (by kernel_rfl) ?_
  refine xw_cond (b := !(((putHalf l h most).2) == ((putHalf l h most).2))) (by kernel_rfl) (fun h8 => ?_) (fun h8 => ?_)
  have h8n := not_t h8
  simp at h8n
  have h8n := not_f h8
  have h8np := eqT h8n
  refine xw_skip ?_
  refine xw_seq ?_
  refine xw_seq ?_
  refine xw_region ?_
  refine xl_callS 2 [0,2,4,8,9,10,11,12,51,52] [(0,.v (.slice Al l.length Cl)),(2,.v (.int .i64 most)),(4,.p 0 0),(8,.v (.slice v3a ((putHalf l h most).1.length) v3c)),(9,.v (.bool ((putHalf l h most).2))),(10,.v (.slice v5a l.length v5c)),(11,.v (.slice v6a ((putHalf l h most).1.length) v6c)),(12,.v (.bool ((putHalf l h most).2))),(51,.v (.slice v5a l.length v5c)),(52,.v (.slice Al l.length Cl))] 16 [.slice Al l.length Cl] (some 53) (by kernel_rfl) rfl (by kernel_rfl) rfl (by kernel_rfl) (xc_on (m := l.length) (F := fun v' => v') (List.length_map ..) fun ww hf => toHalfS_c (.slice Al l.length Cl) l ww (hf (slF (.slice Al l.length Cl) 13 (l.map hlfCells)) (by simp)) (by omega)) ?_
  rintro ⟨v9a,v9c⟩
  refine xl_callS 0 [0,2,4,8,9,10,11,12,51,53] [(0,.v (.slice Al l.length Cl)),(2,.v (.int .i64 most)),(4,.p 0 0),(8,.v (.slice v3a ((putHalf l h most).1.length) v3c)),(9,.v (.bool ((putHalf l h most).2))),(10,.v (.slice v5a l.length v5c)),(11,.v (.slice v6a ((putHalf l h most).1.length) v6c)),(12,.v (.bool ((putHalf l h most).2))),(51,.v (.slice v5a l.length v5c)),(53,.v (.slice v9a l.length v9c))] 19 [.slice v5a l.length v5c,.slice v9a l.length v9c] (some 54) (by kernel_rfl) rfl (by kernel_rfl) rfl (by kernel_rfl) (xc_b fun ww hf => eqHalfS_c (.slice v5a l.length v5c) (.slice v9a l.length v9c) l ww (Own.sl (hf (ownF w.heap.size (.slice v5a l.length v5c) 13 (l.map hlfCells)) (by simp))) (Own.sl (hf (ownF w.heap.size (.slice v9a l.length v9c) 13 (l.map hlfCells)) (by simp)))) ?_
  intro _
  refine xl_endS [0,2,4,8,9,10,11,12,55] [(0,.v (.slice Al l.length Cl)),(2,.v (.int .i64 most)),(4,.p 0 0),(8,.v (.slice v3a ((putHalf l h most).1.length) v3c)),(9,.v (.bool ((putHalf l h most).2))),(10,.v (.slice v5a l.length v5c)),(11,.v (.slice v6a ((putHalf l h most).1.length) v6c)),(12,.v (.bool ((putHalf l h most).2))),(55,.v (.bool false))] (by kernel_rfl) ?_
  refine xw_false (by kernel_rfl) ?_
  refine xw_skip ?_
  refine xw_seq ?_
  refine xw_region ?_
  refine xl_endS [0,2,4,8,9,10,11,12,13] [(0,.v (.slice Al l.length Cl)),(2,.v (.int .i64 most)),(4,.p 0 0),(8,.v (.slice v3a ((putHalf l h most).1.length) v3c)),(9,.v (.bool ((putHalf l h most).2))),(10,.v (.slice v5a l.length v5c)),(11,.v (.slice v6a ((putHalf l h most).1.length) v6c)),(12,.v (.bool ((putHalf l h most).2))),(13,.v (.int .i64 1))] (by kernel_rfl) ?_
  refine xw_seq ?_
  refine xw_region ?_
  refine xl_callWS 2 [0,2,4,8,9,11,12,13,56,57] [(0,.v (.slice Al l.length Cl)),(2,.v (.int .i64 most)),(4,.p 0 0),(8,.v (.slice v3a ((putHalf l h most).1.length) v3c)),(9,.v (.bool ((putHalf l h most).2))),(11,.v (.slice v6a ((putHalf l h most).1.length) v6c)),(12,.v (.bool ((putHalf l h most).2))),(13,.v (.int .i64 1)),(56,.v (.slice v5a l.length v5c)),(57,.v (.int .i64 1))] 20 [.slice v5a l.length v5c,.int .i64 1] (some 58) 2 (ownF w.heap.size (.slice v5a l.length v5c) 13 (l.map hlfCells)) (by kernel_rfl) rfl (by kernel_rfl) rfl (by kernel_rfl) rfl rfl (fun ww b h hb => vblk_lo h hb) (by kernel_rfl) (xcm_own marks_ne fun ww hw hf => ymarkHalfS_c (.slice v5a l.length v5c) l 1 ww w.heap.size hw (hf (ownF w.heap.size (.slice v5a l.length v5c) 13 (l.map hlfCells)) (by simp)) (by omega) (by omega) (by omega)) ?_
  intro _
  refine xl_endS [0,2,4,8,9,11,12,13] [(0,.v (.slice Al l.length Cl)),(2,.v (.int .i64 most)),(4,.p 0 0),(8,.v (.slice v3a ((putHalf l h most).1.length) v3c)),(9,.v (.bool ((putHalf l h most).2))),(11,.v (.slice v6a ((putHalf l h most).1.length) v6c)),(12,.v (.bool ((putHalf l h most).2))),(13,.v (.int .i64 (1 + 13 * (l.length : Int))))] (by kernel_rfl) ?_
  refine xw_seq ?_
  refine xw_seq ?_
  refine xw_region ?_
  refine xl_runS 3 [0,2,4,8,9,11,12,61] [(0,.v (.slice Al l.length Cl)),(2,.v (.int .i64 most)),(4,.p 0 0),(8,.v (.slice v3a ((putHalf l h most).1.length) v3c)),(9,.v (.bool ((putHalf l h most).2))),(11,.v (.slice v6a ((putHalf l h most).1.length) v6c)),(12,.v (.bool ((putHalf l h most).2))),(61,.v (.bool (decide ((1 + 13 * (l.length : Int)) < 0))))] (by kernel_rfl) ?_
  refine xl_split 61 (b := decide ((1 + 13 * (l.length : Int)) < 0)) (by kernel_rfl) (fun h10 => ?_) (fun h10 => ?_)
  have h10p : ((1 + 13 * (l.length : Int)) < 0) := of_decide_eq_true h10
  exfalso; have := of_decide_eq_true h10; omega
  have h10p : ¬ ((1 + 13 * (l.length : Int)) < 0) := of_decide_eq_false h10
  refine xl_callS 2 [0,2,4,8,9,11,12,61,62,63] [(0,.v (.slice Al l.length Cl)),(2,.v (.int .i64 most)),(4,.p 0 0),(8,.v (.slice v3a ((putHalf l h most).1.length) v3c)),(9,.v (.bool ((putHalf l h most).2))),(11,.v (.slice v6a ((putHalf l h most).1.length) v6c)),(12,.v (.bool ((putHalf l h most).2))),(61,.v (.bool false)),(62,.v (.slice v6a ((putHalf l h most).1.length) v6c)),(63,.v (.slice v3a ((putHalf l h most).1.length) v3c))] 19 [.slice v6a ((putHalf l h most).1.length) v6c,.slice v3a ((putHalf l h most).1.length) v3c] (some 64) (by kernel_rfl) rfl (by kernel_rfl) rfl (by kernel_rfl) (xc_b fun ww hf => eqHalfS_c (.slice v6a ((putHalf l h most).1.length) v6c) (.slice v3a ((putHalf l h most).1.length) v3c) ((putHalf l h most).1) ww (Own.sl (hf (ownF w.heap.size (.slice v6a ((putHalf l h most).1.length) v6c) 13 ((putHalf l h most).1.map hlfCells)) (by simp))) (Own.sl (hf (ownF w.heap.size (.slice v3a ((putHalf l h most).1.length) v3c) 13 ((putHalf l h most).1.map hlfCells)) (by simp)))) ?_
  intro _
  refine xl_endS [0,2,4,8,9,11,71] [(0,.v (.slice Al l.length Cl)),(2,.v (.int .i64 most)),(4,.p 0 0),(8,.v (.slice v3a ((putHalf l h most).1.length) v3c)),(9,.v (.bool ((putHalf l h most).2))),(11,.v (.slice v6a ((putHalf l h most).1.length) v6c)),(71,.v (.bool (!(((putHalf l h most).2) == ((putHalf l h most).2)))))] (by kernel_rfl) ?_
  refine xw_cond (b := !(((putHalf l h most).2) == ((putHalf l h most).2))) (by kernel_rfl) (fun h11 => ?_) (fun h11 => ?_)
  have h11n := not_t h11
  simp at h11n
  have h11n := not_f h11
  have h11np := eqT h11n
  refine xw_skip ?_
  refine xw_seq ?_
  refine xw_region ?_
  refine xl_endS [0,2,4,8,9,11,14] [(0,.v (.slice Al l.length Cl)),(2,.v (.int .i64 most)),(4,.p 0 0),(8,.v (.slice v3a ((putHalf l h most).1.length) v3c)),(9,.v (.bool ((putHalf l h most).2))),(11,.v (.slice v6a ((putHalf l h most).1.length) v6c)),(14,.v (.int .i64 1))] (by kernel_rfl) ?_
  refine xw_seq ?_
  refine xw_region ?_
  refine xl_callWS 2 [0,2,4,8,9,11,14,72,73] [(0,.v (.slice Al l.length Cl)),(2,.v (.int .i64 most)),(4,.p 0 0),(8,.v (.slice v3a ((putHalf l h most).1.length) v3c)),(9,.v (.bool ((putHalf l h most).2))),(11,.v (.slice v6a ((putHalf l h most).1.length) v6c)),(14,.v (.int .i64 1)),(72,.v (.slice v6a ((putHalf l h most).1.length) v6c)),(73,.v (.int .i64 1))] 20 [.slice v6a ((putHalf l h most).1.length) v6c,.int .i64 1] (some 74) 2 (ownF w.heap.size (.slice v6a ((putHalf l h most).1.length) v6c) 13 ((putHalf l h most).1.map hlfCells)) (by kernel_rfl) rfl (by kernel_rfl) rfl (by kernel_rfl) rfl rfl (fun ww b h hb => vblk_lo h hb) (by kernel_rfl) (xcm_own marks_ne fun ww hw hf => ymarkHalfS_c (.slice v6a ((putHalf l h most).1.length) v6c) ((putHalf l h most).1) 1 ww w.heap.size hw (hf (ownF w.heap.size (.slice v6a ((putHalf l h most).1.length) v6c) 13 ((putHalf l h most).1.map hlfCells)) (by simp)) (by omega) (by omega) (by omega)) ?_
  intro _
  refine xl_endS [0,2,4,8,9,11,14] [(0,.v (.slice Al l.length Cl)),(2,.v (.int .i64 most)),(4,.p 0 0),(8,.v (.slice v3a ((putHalf l h most).1.length) v3c)),(9,.v (.bool ((putHalf l h most).2))),(11,.v (.slice v6a ((putHalf l h most).1.length) v6c)),(14,.v (.int .i64 (1 + 13 * (((putHalf l h most).1).length : Int))))] (by kernel_rfl) ?_
  refine xw_seq ?_
  refine xw_region ?_
  refine xl_endS [0,2,4,8,9,11,14,15] [(0,.v (.slice Al l.length Cl)),(2,.v (.int .i64 most)),(4,.p 0 0),(8,.v (.slice v3a ((putHalf l h most).1.length) v3c)),(9,.v (.bool ((putHalf l h most).2))),(11,.v (.slice v6a ((putHalf l h most).1.length) v6c)),(14,.v (.int .i64 (1 + 13 * (((putHalf l h most).1).length : Int)))),(15,.v (.int .i64 1))] (by kernel_rfl) ?_
  refine xw_seq ?_
  refine xw_region ?_
  refine xl_callS 2 [0,2,4,8,9,11,14,15,75,76] [(0,.v (.slice Al l.length Cl)),(2,.v (.int .i64 most)),(4,.p 0 0),(8,.v (.slice v3a ((putHalf l h most).1.length) v3c)),(9,.v (.bool ((putHalf l h most).2))),(11,.v (.slice v6a ((putHalf l h most).1.length) v6c)),(14,.v (.int .i64 (1 + 13 * (((putHalf l h most).1).length : Int)))),(15,.v (.int .i64 1)),(75,.v (.slice v6a ((putHalf l h most).1.length) v6c)),(76,.v (.int .i64 1))] 21 [.slice v6a ((putHalf l h most).1.length) v6c,.int .i64 1] (some 77) (by kernel_rfl) rfl (by kernel_rfl) rfl (by kernel_rfl) (xc_b fun ww hf => yheldHalfS_m ((putHalf l h most).1).length  (.slice v6a ((putHalf l h most).1.length) v6c) 1 ww (Own.sl (hf (ownF w.heap.size (.slice v6a ((putHalf l h most).1.length) v6c) 13 ((marks mkH 13 1 ((putHalf l h most).1).length).map hlfCells)) (by simp))) (by omega) (by omega) (by omega)) ?_
  intro _
  refine xl_endS [0,2,4,8,9,11,14,15] [(0,.v (.slice Al l.length Cl)),(2,.v (.int .i64 most)),(4,.p 0 0),(8,.v (.slice v3a ((putHalf l h most).1.length) v3c)),(9,.v (.bool ((putHalf l h most).2))),(11,.v (.slice v6a ((putHalf l h most).1.length) v6c)),(14,.v (.int .i64 (1 + 13 * (((putHalf l h most).1).length : Int)))),(15,.v (.int .i64 (1 + 13 * (((putHalf l h most).1).length : Int))))] (by kernel_rfl) ?_
  refine xw_seq ?_
  refine xw_seq ?_
  refine xw_region ?_
  refine xl_endS [0,2,4,8,9,11,14,15,79] [(0,.v (.slice Al l.length Cl)),(2,.v (.int .i64 most)),(4,.p 0 0),(8,.v (.slice v3a ((putHalf l h most).1.length) v3c)),(9,.v (.bool ((putHalf l h most).2))),(11,.v (.slice v6a ((putHalf l h most).1.length) v6c)),(14,.v (.int .i64 (1 + 13 * (((putHalf l h most).1).length : Int)))),(15,.v (.int .i64 (1 + 13 * (((putHalf l h most).1).length : Int)))),(79,.v (.bool (decide ((1 + 13 * (((putHalf l h most).1).length : Int)) < 0))))] (by kernel_rfl) ?_
  refine xw_cond (b := decide ((1 + 13 * (((putHalf l h most).1).length : Int)) < 0)) (by kernel_rfl) (fun h12 => ?_) (fun h12 => ?_)
  have h12p : ((1 + 13 * (((putHalf l h most).1).length : Int)) < 0) := of_decide_eq_true h12
  exfalso; have := of_decide_eq_true h12; omega
  have h12p : ¬ ((1 + 13 * (((putHalf l h most).1).length : Int)) < 0) := of_decide_eq_false h12
  refine xw_skip ?_
  refine xw_seq ?_
  refine xw_seq ?_
  refine xw_region ?_
  refine xl_endS [0,2,4,8,9,11,14,82] [(0,.v (.slice Al l.length Cl)),(2,.v (.int .i64 most)),(4,.p 0 0),(8,.v (.slice v3a ((putHalf l h most).1.length) v3c)),(9,.v (.bool ((putHalf l h most).2))),(11,.v (.slice v6a ((putHalf l h most).1.length) v6c)),(14,.v (.int .i64 (1 + 13 * (((putHalf l h most).1).length : Int)))),(82,.v (.bool ((1 + 13 * (((putHalf l h most).1).length : Int)) != (1 + 13 * (((putHalf l h most).1).length : Int)))))] (by kernel_rfl) ?_
  refine xw_cond (b := (1 + 13 * (((putHalf l h most).1).length : Int)) != (1 + 13 * (((putHalf l h most).1).length : Int))) (by kernel_rfl) (fun h13 => ?_) (fun h13 => ?_)
  simp at h13
  have h13p := neF h13
  refine xw_skip ?_
  refine xw_seq ?_
  refine xe_region [] (by kernel_rfl) (fun ρ σ => ?_)
  refine xe_tkS [0,2,4] [88,86,84,8,9,11,14] 8 [(88,.v (.int .i64 most)),(86,.v (.agg (hlfL h).toArray)),(84,.v (.slice Al l.length Cl)),(8,.v (.slice v3a ((putHalf l h most).1.length) v3c)),(9,.v (.bool ((putHalf l h most).2))),(11,.v (.slice v6a ((putHalf l h most).1.length) v6c)),(14,.v (.int .i64 (1 + 13 * (((putHalf l h most).1).length : Int))))] (fun _ _ h => h) rfl (by kernel_rfl) ?_
  refine xe_all [1] (by kernel_rfl) (by simp) ?_
  refine xs_call 1 16 [.slice Al l.length Cl] (some 85) rfl (by kernel_rfl) rfl (by kernel_rfl) (xc_on (m := l.length) (F := fun v' => v') (List.length_map ..) fun ww hf => toHalfS_c (.slice Al l.length Cl) l ww (hf (slF (.slice Al l.length Cl) 13 (l.map hlfCells)) (by simp)) (by omega)) ?_
  rintro ⟨v14a,v14c⟩
  refine xe_all [3] (by kernel_rfl) (by simp) ?_
  refine xs_call 3 23 [.agg (hlfL h).toArray] (some 87) rfl (by kernel_rfl) rfl (by kernel_rfl) (xc_b fun ww hf => toHalf_c h.t.ip h.t.port h.t.my h.iss h.irs h.o.mss h.o.scale h.o.sack h.o.stamp h.o.val h.o.echo h.age h.window ww) ?_
  intro _
  refine xe_all [5] (by kernel_rfl) (by simp) ?_
  refine xs_call 5 24 [.slice v14a l.length v14c,.agg (hlfL h).toArray,.int .i64 most] (some 89) rfl (by kernel_rfl) rfl (by kernel_rfl) (xc_r fun ww hw hf => yiPutHalf_c l (.slice v14a l.length v14c) h most ww (Own.sl (hf (ownF w.heap.size (.slice v14a l.length v14c) 13 (l.map hlfCells)) (by simp))) (by assumption) w.heap.size hw) ?_
  rintro ⟨v15a,v15c⟩
  have hbd16 : (putHalf l h most).1.length ≤ 1048576 := putHalf_bd _ _ _  (by omega)
  refine xe_tkS [6,7,8,9,10] [17,16,8,9,11,14] 0 [(17,.v (.bool ((putHalf l h most).2))),(16,.v (.slice v15a ((putHalf l h most).1.length) v15c)),(8,.v (.slice v3a ((putHalf l h most).1.length) v3c)),(9,.v (.bool ((putHalf l h most).2))),(11,.v (.slice v6a ((putHalf l h most).1.length) v6c)),(14,.v (.int .i64 (1 + 13 * (((putHalf l h most).1).length : Int))))] (fun _ _ h => h) rfl (by kernel_rfl) ?_
  refine xe_done (by kernel_rfl) ?_
  refine xw_seq ?_
  refine xw_seq ?_
  refine xw_region ?_
  refine xl_callS 2 [9,11,14,17,92,93] [(9,.v (.bool ((putHalf l h most).2))),(11,.v (.slice v6a ((putHalf l h most).1.length) v6c)),(14,.v (.int .i64 (1 + 13 * (((putHalf l h most).1).length : Int)))),(17,.v (.bool ((putHalf l h most).2))),(92,.v (.slice v15a ((putHalf l h most).1.length) v15c)),(93,.v (.slice v3a ((putHalf l h most).1.length) v3c))] 19 [.slice v15a ((putHalf l h most).1.length) v15c,.slice v3a ((putHalf l h most).1.length) v3c] (some 94) (by kernel_rfl) rfl (by kernel_rfl) rfl (by kernel_rfl) (xc_b fun ww hf => eqHalfS_c (.slice v15a ((putHalf l h most).1.length) v15c) (.slice v3a ((putHalf l h most).1.length) v3c) ((putHalf l h most).1) ww (Own.sl (hf (ownF w.heap.size (.slice v15a ((putHalf l h most).1.length) v15c) 13 ((putHalf l h most).1.map hlfCells)) (by simp))) (Own.sl (hf (ownF w.heap.size (.slice v3a ((putHalf l h most).1.length) v3c) 13 ((putHalf l h most).1.map hlfCells)) (by simp)))) ?_
  intro _
  refine xl_endS [11,14,100] [(11,.v (.slice v6a ((putHalf l h most).1.length) v6c)),(14,.v (.int .i64 (1 + 13 * (((putHalf l h most).1).length : Int)))),(100,.v (.bool (!(((putHalf l h most).2) == ((putHalf l h most).2)))))] (by kernel_rfl) ?_
  refine xw_cond (b := !(((putHalf l h most).2) == ((putHalf l h most).2))) (by kernel_rfl) (fun h17 => ?_) (fun h17 => ?_)
  have h17n := not_t h17
  simp at h17n
  have h17n := not_f h17
  have h17np := eqT h17n
  refine xw_skip ?_
  refine xw_seq ?_
  refine xw_region ?_
  refine xl_endS [11,14,15] [(11,.v (.slice v6a ((putHalf l h most).1.length) v6c)),(14,.v (.int .i64 (1 + 13 * (((putHalf l h most).1).length : Int)))),(15,.v (.int .i64 1))] (by kernel_rfl) ?_
  refine xw_seq ?_
  refine xw_region ?_
  refine xl_callS 2 [14,15,101,102] [(14,.v (.int .i64 (1 + 13 * (((putHalf l h most).1).length : Int)))),(15,.v (.int .i64 1)),(101,.v (.slice v6a ((putHalf l h most).1.length) v6c)),(102,.v (.int .i64 1))] 21 [.slice v6a ((putHalf l h most).1.length) v6c,.int .i64 1] (some 103) (by kernel_rfl) rfl (by kernel_rfl) rfl (by kernel_rfl) (xc_b fun ww hf => yheldHalfS_m ((putHalf l h most).1).length  (.slice v6a ((putHalf l h most).1.length) v6c) 1 ww (Own.sl (hf (ownF w.heap.size (.slice v6a ((putHalf l h most).1.length) v6c) 13 ((marks mkH 13 1 ((putHalf l h most).1).length).map hlfCells)) (by simp))) (by omega) (by omega) (by omega)) ?_
  intro _
  refine xl_endS [14,15] [(14,.v (.int .i64 (1 + 13 * (((putHalf l h most).1).length : Int)))),(15,.v (.int .i64 (1 + 13 * (((putHalf l h most).1).length : Int))))] (by kernel_rfl) ?_
  refine xw_seq ?_
  refine xw_seq ?_
  refine xw_region ?_
  refine xl_endS [14,15,105] [(14,.v (.int .i64 (1 + 13 * (((putHalf l h most).1).length : Int)))),(15,.v (.int .i64 (1 + 13 * (((putHalf l h most).1).length : Int)))),(105,.v (.bool (decide ((1 + 13 * (((putHalf l h most).1).length : Int)) < 0))))] (by kernel_rfl) ?_
  refine xw_cond (b := decide ((1 + 13 * (((putHalf l h most).1).length : Int)) < 0)) (by kernel_rfl) (fun h18 => ?_) (fun h18 => ?_)
  have h18p : ((1 + 13 * (((putHalf l h most).1).length : Int)) < 0) := of_decide_eq_true h18
  exfalso; have := of_decide_eq_true h18; omega
  have h18p : ¬ ((1 + 13 * (((putHalf l h most).1).length : Int)) < 0) := of_decide_eq_false h18
  refine xw_skip ?_
  refine xw_seq ?_
  refine xw_seq ?_
  refine xw_region ?_
  refine xl_endS [108] [(108,.v (.bool ((1 + 13 * (((putHalf l h most).1).length : Int)) != (1 + 13 * (((putHalf l h most).1).length : Int)))))] (by kernel_rfl) ?_
  refine xw_cond (b := (1 + 13 * (((putHalf l h most).1).length : Int)) != (1 + 13 * (((putHalf l h most).1).length : Int))) (by kernel_rfl) (fun h19 => ?_) (fun h19 => ?_)
  simp at h19
  have h19p := neF h19
  refine xw_skip ?_
  refine xw_seq ?_
  refine xw_region ?_
  refine xl_endS [6] [(6,.v (.bool true))] (by kernel_rfl) ?_
  refine xw_ret ?_
  exact ⟨[.bool true],by kernel_rfl,fun w' hb hf => ⟨rfl,hb⟩⟩

set_option maxRecDepth 100000 in
theorem fnExactPutHalf_lifted (os : Os) (started : os.Started) (H : Type) (enc : TypeId × Value → H) :
    ReturnsInHanded {} Try.checked os 4 .any (Rows.fnExactPutHalfSpec.pre6 enc Try.prog Try.f4 Rows.fnExactPutHalfRow.domain false) (Rows.fnExactPutHalfSpec.post enc Try.prog Try.f4 false true false false) := by
  refine returnsInHanded_of_change (C := Try.checked) Try.ownK started (by kernel_rfl) Try.func4
    (ChangeSpec.witness6 (enc := enc) (C := Try.checked) false ⟨#[], #[.slice none 0 0, .agg #[.int .i64 0, .int .i64 0, .int .i64 0, .int .i64 0, .int .i64 0, .int .i64 0, .int .i64 0, .bool false, .bool false, .int .i64 0, .int .i64 0, .int .i64 0, .int .i64 0], .int .i64 0], []⟩ 8 (by kernel_rfl) (by kernel_rfl) (by kernel_rfl) (by kernel_rfl)) ?_
  intro W base args ds gs before hval0 hW hcnd _
  have hval : ∀ (j : Nat) t v, Try.f4.params[j]? = some t → args[j]? = some v → Value.okWide Try.prog W .any base t v := hval0
  have hW' := hW
  obtain ⟨p, q, hA0, hV, rfl, hfz, hnd⟩ := hW
  have hA : DataW.TrodAll enc Try.prog W 0 (fun _ => true) true Try.f4.params.toList args.toList ds p := hA0
  rw [Try.params4] at hA hval
  obtain ⟨v0, vs0, d0, ds0, p0, q0, hargs, rfl, rfl, h0, r0⟩ := trodAll_cons hA
  obtain ⟨v1, vs1, d1, ds1, p1, q1, rfl, rfl, rfl, h1, r1⟩ := trodAll_cons r0
  obtain ⟨v2, vs2, d2, ds2, p2, q2, rfl, rfl, rfl, h2, r2⟩ := trodAll_cons r1
  obtain ⟨rfl, rfl, rfl⟩ := trodAll_nil r2
  obtain rfl : args = #[v0, v1, v2] := by cases args; simp_all
  obtain ⟨rfl, rfl⟩ := trodVars_none hV
  clear hA0 hval0
  have g0 := h0
  have g1 := h1
  have g2 := h2
  obtain ⟨l0, L0⟩ := openS_HLF (hval 0 _ v0 rfl rfl) g0
  obtain ⟨cs1, rfl, -⟩ := okWide_struct Try.underlying37 (hval 1 _ v1 rfl rfl)
  obtain ⟨fuel1, f1⟩ := g1
  obtain ⟨h_t_ip, h_t_port, h_t_my, h_iss, h_irs, h_o_mss, h_o_scale, h_o_sack, h_o_stamp, h_o_val, h_o_echo, h_age, h_window, e1, F_h_t_ip, F_h_t_port, F_h_t_my, F_h_iss, F_h_irs, F_h_o_mss, F_h_o_scale, F_h_o_val, F_h_o_echo, F_h_age, F_h_window⟩ := open_HLF f1
  obtain rfl : cs1 = #[.int .i64 h_t_ip, .int .i64 h_t_port, .int .i64 h_t_my, .int .i64 h_iss, .int .i64 h_irs, .int .i64 h_o_mss, .int .i64 h_o_scale, .bool h_o_sack, .bool h_o_stamp, .int .i64 h_o_val, .int .i64 h_o_echo, .int .i64 h_age, .int .i64 h_window] := by cases cs1; simpa [Value.cells] using e1
  clear e1
  obtain ⟨a2, rfl, rfl, rfl, w2⟩ := open_int Try.underlying3 (hval 2 _ v2 rfl rfl) g2
  refine (fnExactPutHalf_walk l0 v0 (⟨⟨h_t_ip, h_t_port, h_t_my⟩, h_iss, h_irs, ⟨h_o_mss, h_o_scale, h_o_sack, h_o_stamp, h_o_val, h_o_echo⟩, h_age, h_window⟩ : Hlf) a2 W L0 (wf_i64 w2)).mono fun e W' ⟨he, hb⟩ => ?_
  subst he
  have hlt : ∀ x ∈ (p0 ++ (p1 ++ (([] : List MemPlace) ++ ([])))) ++ [], x.block < W.heap.size := fun x hx => hW'.lt x hx
  refine ⟨_, rfl, post_of_below (pa := (p0 ++ (p1 ++ (([] : List MemPlace) ++ ([]))))) (pv := []) hW' (fun _ _ _ => trodAll_cons_mk (shut_bool Try.underlying4 _) trodAll_mk0) (fun sp hsp => trodAll_cons_mk (WideElems.Trod_stays Try.laidOut (by kernel_rfl) (of_decide_eq_true (by kernel_rfl)) h0 (fun x hx => hb.same (hlt x (List.mem_append_left _ (List.mem_append_left _ hx)))) (fun x hx => hsp x (List.mem_append_left _ (List.mem_append_left _ hx)))) (trodAll_cons_mk (WideElems.Trod_stays Try.laidOut (by kernel_rfl) (of_decide_eq_true (by kernel_rfl)) h1 (fun x hx => hb.same (hlt x (List.mem_append_left _ (List.mem_append_right _ (List.mem_append_left _ hx))))) (fun x hx => hsp x (List.mem_append_left _ (List.mem_append_right _ (List.mem_append_left _ hx))))) (trodAll_cons_mk (WideElems.Trod_stays Try.laidOut (by kernel_rfl) (of_decide_eq_true (by kernel_rfl)) h2 (fun x hx => hb.same (hlt x (List.mem_append_left _ (List.mem_append_right _ (List.mem_append_right _ (List.mem_append_left _ hx)))))) (fun x hx => hsp x (List.mem_append_left _ (List.mem_append_right _ (List.mem_append_right _ (List.mem_append_left _ hx)))))) (trodAll_mk0)))) (fun _ _ => rfl) rfl hb (ok_one (by kernel_rfl) rfl (okWide_bool_mk Try.underlying4 _))⟩

theorem fnExactPutHalf_over : Rows.fnExactPutHalfRow.holds Try.pinned (OpenSpec.ofChange Rows.fnExactPutHalfSpec) :=
  OpenClaim.holds_of_wide 4 Try.f4 rfl rfl rfl rfl rfl rfl rfl ⟨rfl, rfl, rfl, rfl, rfl⟩ rfl rfl rfl rfl rfl (by kernel_rfl) Try.func4 (by kernel_rfl)
    (of_decide_eq_true (by kernel_rfl)) (by unfold Func.isWrapper; first | (rw [if_pos (by decide +kernel)]; kernel_rfl) | (rw [if_neg (by decide +kernel)]; exact ⟨rfl, rfl⟩))
    (fun os started H enc _ => fnExactPutHalf_lifted os started H enc)

theorem fnExactPutHalf_holds : Rows.FnExactPutHalfSaid := fnExactPutHalf_over
#print axioms fnExactPutHalf_holds
end Go.Proofs.Yteoipoenbofemaa
