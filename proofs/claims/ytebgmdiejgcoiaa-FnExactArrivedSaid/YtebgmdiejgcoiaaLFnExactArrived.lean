/- The law FnExactArrived holds: for every argument the program's function answers true and leaves its arguments as they were. Conditions: none beyond the given row's. -/
import Derived.Test.YtebgmdiejgcoiaaZ2
import Derived.Test.YtebgmdiejgcoiaaG3
import Derived.Test.YtebgmdiejgcoiaaG2
namespace Go.Proofs.Ytebgmdiejgcoiaa
open Go.RowKit Go.ChangeShapes Go.WideShapes Go.ChangeAt
set_option linter.unusedVariables false
set_option linter.unusedSimpArgs false

set_option maxRecDepth 100000 in
set_option maxHeartbeats 2000000 in
theorem fnExactArrived_walk (r : Rcv) (r_heldV : Value) (seq : Int) (text : ByteArray) (fin : Bool) (w : World) (hs_r_data : r.data.size ≤ maxLen) (hl_r_heldV : Sl w r_heldV 2 (r.held.map pceCells)) (hm_r_heldV : ∀ p ∈ r.held, p.text.size ≤ maxLen) (hi_seq : I64 seq) (hs_text : text.size ≤ maxLen) : Calls Try.prog 3 #[.agg (rcvL r r_heldV).toArray, .int .i64 seq, .string text, .bool fin] w fun e w' => e = .returned (.bool true) ∧ Below w.heap.size w w' := by
 obtain ⟨Arh,Crh,hvrh⟩ := hl_r_heldV.form
 rw [List.length_map] at hvrh; subst hvrh
 have hnrh := hl_r_heldV.len; rw [List.length_map] at hnrh
 have hqrh := Sl.capLe hl_r_heldV
 unfold I64 at hi_seq
 refine x_calls (args := [.agg (rcvL r (.slice Arh r.held.length Crh)).toArray,.int .i64 seq,.string text,.bool fin]) (fn := Try.f3) [slF (.slice Arh r.held.length Crh) 2 (r.held.map pceCells)] Try.func3 rfl Try.ntmps3 rfl (by simp only [List.mem_cons,List.not_mem_nil,or_false,forall_eq_or_imp,forall_eq]; exact ⟨rfl,hl_r_heldV⟩) ?_
 refine kQ ?_
 refine kEF [1,2,3,4] ⟨[(1,.v (.int .i64 seq)),(2,.v (.string text)),(3,.v (.bool fin)),(4,.p 0 0)],[⟨24,rcvL r (.slice Arh r.held.length Crh)⟩],[],[slF (.slice Arh r.held.length Crh) 2 (r.held.map pceCells)]⟩ ?_
 refine kS ?_
 refine kQ ?_
 refine kES [1,2,3,4,19] [(1,.v (.int .i64 seq)),(2,.v (.string text)),(3,.v (.bool fin)),(4,.p 0 0),(19,.v (.bool (decide ((text.size : Int) > 1048576))))] ?_
 refine kC (decide ((text.size : Int) > 1048576)) (fun h1 => ?_) (fun h1 => ?_)
 have h1p := of_decide_eq_true h1
 refine kQ ?_
 refine kES [8] [(8,.v (.bool true))] ?_
 refine kR ?_
 exact ⟨[.bool true],by kernel_rfl,fun w' hb hf => ⟨rfl,hb⟩⟩
 have h1p := of_decide_eq_false h1
 refine kK ?_
 refine kQ ?_
 refine kES [1,2,3,4,9] [(1,.v (.int .i64 seq)),(2,.v (.string text)),(3,.v (.bool fin)),(4,.p 0 0),(9,.v (.int .i64 1048576))] ?_
 refine kQ ?_
 refine kCS 2 [1,2,3,4,9,20,21] [(1,.v (.int .i64 seq)),(2,.v (.string text)),(3,.v (.bool fin)),(4,.p 0 0),(9,.v (.int .i64 1048576)),(20,.v (.agg (rcvL r (.slice Arh r.held.length Crh)).toArray)),(21,.v (.int .i64 1048576))] 6 [.agg (rcvL r (.slice Arh r.held.length Crh)).toArray,.int .i64 1048576] (some 22) rfl (xc_e (α := Int) (F := fun y => .int .i64 y) (p := fun rr => rr = -1 ∨ (0 ≤ rr ∧ rr ≤ 1048576 ∧ (r.data.size : Int) ≤ 1048576 ∧ PcFit 1048576 rr r.held)) fun ww hf => szReceiver_c r.next r.data r.held (.slice Arh r.held.length Crh) r.fin r.done 1048576 ww (hf _ m0) hm_r_heldV (by omega) (by omega) hs_r_data) ?_
 rintro ⟨r2,hr2⟩
 refine kES [1,2,3,4,9] [(1,.v (.int .i64 seq)),(2,.v (.string text)),(3,.v (.bool fin)),(4,.p 0 0),(9,.v (.int .i64 r2))] ?_
 refine kS ?_
 refine kQ ?_
 refine kES [1,2,3,4,24] [(1,.v (.int .i64 seq)),(2,.v (.string text)),(3,.v (.bool fin)),(4,.p 0 0),(24,.v (.bool (decide (r2 < 0))))] ?_
 refine kC (decide (r2 < 0)) (fun h3 => ?_) (fun h3 => ?_)
 have h3p := of_decide_eq_true h3
 refine kQ ?_
 refine kES [8] [(8,.v (.bool true))] ?_
 refine kR ?_
 exact ⟨[.bool true],by kernel_rfl,fun w' hb hf => ⟨rfl,hb⟩⟩
 have h3p := of_decide_eq_false h3
 rcases hr2 with hr2 | ⟨hr2a,hr2b,hr2c,hr2d⟩
 · omega
 rcases hr2d with hr2d | ⟨-,-,hr2e,hr2f⟩
 · omega
 have hknr2 : r.held.length ≤ 1048576 := by omega
 have hmr2 : ∀ p ∈ r.held,p.text.size ≤ 1048576 := fun p hp => by have := hr2f p hp; omega
 obtain ⟨hza,hzb,hzc⟩ := arrived_sz (H := 1048576) (T := 1048576) (D := 4611686018427387904) (r := r) (seq := seq) (t := text) (fin := fin) (by omega) (by assumption) (by omega) (by omega) (by omega) (by omega)
 refine kK ?_
 refine kQ ?_
 refine kCS 1 [1,2,3,4,25] [(1,.v (.int .i64 seq)),(2,.v (.string text)),(3,.v (.bool fin)),(4,.p 0 0),(25,.v (.agg (rcvL r (.slice Arh r.held.length Crh)).toArray))] 8 [.agg (rcvL r (.slice Arh r.held.length Crh)).toArray] (some 26) rfl (xc_on (m := r.held.length) (F := fun v' => .agg (rcvL r v').toArray) (List.length_map ..) fun ww hf => toReceiver_c r.next r.data r.held (.slice Arh r.held.length Crh) r.fin r.done ww (hf _ m0) (by omega)) ?_
 rintro ⟨v4a,v4c⟩
 refine kCS 3 [1,2,3,4,26,27,28,29] [(1,.v (.int .i64 seq)),(2,.v (.string text)),(3,.v (.bool fin)),(4,.p 0 0),(26,.v (.agg (rcvL r (.slice v4a r.held.length v4c)).toArray)),(27,.v (.int .i64 seq)),(28,.v (.string text)),(29,.v (.bool fin))] 7 [.agg (rcvL r (.slice v4a r.held.length v4c)).toArray,.int .i64 seq,.string text,.bool fin] (some 30) rfl (xc_r fun ww hw hf => ysArrived_c r (.slice v4a r.held.length v4c) seq text fin ww (Own.sl (hf _ m0)) (by assumption) (by assumption) (by omega) (by omega) w.heap.size hw) ?_
 rintro ⟨v5a,v5c⟩
 refine kEF [1,2,3,4,10] ⟨[(1,.v (.int .i64 seq)),(2,.v (.string text)),(3,.v (.bool fin)),(4,.p 0 0),(10,.p 1 0)],[⟨24,rcvL r (.slice Arh r.held.length Crh)⟩,⟨28,rcvL (arrived r seq text fin) (.slice v5a ((arrived r seq text fin).held.length) v5c)⟩],[],[rowF w.heap.size 81 2 (.slice v5a ((arrived r seq text fin).held.length) v5c) ((arrived r seq text fin).held.map pceCells),ownF w.heap.size (.slice v4a r.held.length v4c) 2 (r.held.map pceCells),slF (.slice Arh r.held.length Crh) 2 (r.held.map pceCells)]⟩ ?_
 refine kQ ?_
 refine kCS 1 [1,2,3,4,10,31] [(1,.v (.int .i64 seq)),(2,.v (.string text)),(3,.v (.bool fin)),(4,.p 0 0),(10,.p 1 0),(31,.v (.agg (rcvL r (.slice Arh r.held.length Crh)).toArray))] 8 [.agg (rcvL r (.slice Arh r.held.length Crh)).toArray] (some 32) rfl (xc_on (m := r.held.length) (F := fun v' => .agg (rcvL r v').toArray) (List.length_map ..) fun ww hf => toReceiver_c r.next r.data r.held (.slice Arh r.held.length Crh) r.fin r.done ww (hf _ m2) (by omega)) ?_
 rintro ⟨v6a,v6c⟩
 refine kEF [1,2,3,4,10,11] ⟨[(1,.v (.int .i64 seq)),(2,.v (.string text)),(3,.v (.bool fin)),(4,.p 0 0),(10,.p 1 0),(11,.p 2 0)],[⟨24,rcvL r (.slice Arh r.held.length Crh)⟩,⟨28,rcvL (arrived r seq text fin) (.slice v5a ((arrived r seq text fin).held.length) v5c)⟩,⟨28,rcvL r (.slice v6a r.held.length v6c)⟩],[],[ownF w.heap.size (.slice v6a r.held.length v6c) 2 (r.held.map pceCells),rowF w.heap.size 81 2 (.slice v5a ((arrived r seq text fin).held.length) v5c) ((arrived r seq text fin).held.map pceCells),ownF w.heap.size (.slice v4a r.held.length v4c) 2 (r.held.map pceCells),slF (.slice Arh r.held.length Crh) 2 (r.held.map pceCells)]⟩ ?_
 refine kQ ?_
 refine kCS 4 [1,2,3,4,10,11,33,34,35,36] [(1,.v (.int .i64 seq)),(2,.v (.string text)),(3,.v (.bool fin)),(4,.p 0 0),(10,.p 1 0),(11,.p 2 0),(33,.v (.agg (rcvL r (.slice v6a r.held.length v6c)).toArray)),(34,.v (.int .i64 seq)),(35,.v (.string text)),(36,.v (.bool fin))] 9 [.agg (rcvL r (.slice v6a r.held.length v6c)).toArray,.int .i64 seq,.string text,.bool fin] (some 37) rfl (xc_r fun ww hw hf => yiArrived_c r (.slice v6a r.held.length v6c) seq text fin ww (Own.sl (hf _ m0)) (by assumption) (by assumption) (by omega) (by omega) w.heap.size hw) ?_
 rintro ⟨v7a,v7c⟩
 refine kEF [1,2,3,4,10,11,12] ⟨[(1,.v (.int .i64 seq)),(2,.v (.string text)),(3,.v (.bool fin)),(4,.p 0 0),(10,.p 1 0),(11,.p 2 0),(12,.p 3 0)],[⟨24,rcvL r (.slice Arh r.held.length Crh)⟩,⟨28,rcvL (arrived r seq text fin) (.slice v5a ((arrived r seq text fin).held.length) v5c)⟩,⟨28,rcvL r (.slice v6a r.held.length v6c)⟩,⟨28,rcvL (arrived r seq text fin) (.slice v7a ((arrived r seq text fin).held.length) v7c)⟩],[],[ownF w.heap.size (.slice v7a ((arrived r seq text fin).held.length) v7c) 2 ((arrived r seq text fin).held.map pceCells),ownF w.heap.size (.slice v6a r.held.length v6c) 2 (r.held.map pceCells),rowF w.heap.size 81 2 (.slice v5a ((arrived r seq text fin).held.length) v5c) ((arrived r seq text fin).held.map pceCells),ownF w.heap.size (.slice v4a r.held.length v4c) 2 (r.held.map pceCells),slF (.slice Arh r.held.length Crh) 2 (r.held.map pceCells)]⟩ ?_
 refine kS ?_
 refine kQ ?_
 refine kCS 2 [1,2,3,4,10,11,12,38,39] [(1,.v (.int .i64 seq)),(2,.v (.string text)),(3,.v (.bool fin)),(4,.p 0 0),(10,.p 1 0),(11,.p 2 0),(12,.p 3 0),(38,.v (.agg (rcvL (arrived r seq text fin) (.slice v7a ((arrived r seq text fin).held.length) v7c)).toArray)),(39,.v (.agg (rcvL (arrived r seq text fin) (.slice v5a ((arrived r seq text fin).held.length) v5c)).toArray))] 10 [.agg (rcvL (arrived r seq text fin) (.slice v7a ((arrived r seq text fin).held.length) v7c)).toArray,.agg (rcvL (arrived r seq text fin) (.slice v5a ((arrived r seq text fin).held.length) v5c)).toArray] (some 40) rfl (xc_b fun ww hf => eqReceiver_c ((arrived r seq text fin).next) ((arrived r seq text fin).data) ((arrived r seq text fin).held) (.slice v7a ((arrived r seq text fin).held.length) v7c) ((arrived r seq text fin).fin) ((arrived r seq text fin).done) (.slice v5a ((arrived r seq text fin).held.length) v5c) ww (Own.sl (hf _ m0)) (rowF_sl (hf _ m2))) ?_
 intro _
 refine kES [1,2,3,4,10,11,12,41] [(1,.v (.int .i64 seq)),(2,.v (.string text)),(3,.v (.bool fin)),(4,.p 0 0),(10,.p 1 0),(11,.p 2 0),(12,.p 3 0),(41,.v (.bool false))] ?_
 refine kN ?_
 refine kK ?_
 refine kS ?_
 refine kS ?_
 refine xe_region [] (by kernel_rfl) (fun ρ σ => ?_)
 refine kTS [0,1] [43,42,1,2,3,4,10,11,12] 3 [(43,.v (.agg (rcvL r (.slice Arh r.held.length Crh)).toArray)),(42,.v (.agg (rcvL r (.slice v6a r.held.length v6c)).toArray)),(1,.v (.int .i64 seq)),(2,.v (.string text)),(3,.v (.bool fin)),(4,.p 0 0),(10,.p 1 0),(11,.p 2 0),(12,.p 3 0)] ?_
 refine kA [2] ?_
 refine kSC 2 8 [.agg (rcvL r (.slice Arh r.held.length Crh)).toArray] (some 44) rfl (xc_on (m := r.held.length) (F := fun v' => .agg (rcvL r v').toArray) (List.length_map ..) fun ww hf => toReceiver_c r.next r.data r.held (.slice Arh r.held.length Crh) r.fin r.done ww (hf _ m4) (by omega)) ?_
 rintro ⟨v8a,v8c⟩
 refine kA [3] ?_
 refine kSC 3 10 [.agg (rcvL r (.slice v6a r.held.length v6c)).toArray,.agg (rcvL r (.slice v8a r.held.length v8c)).toArray] (some 45) rfl (xc_b fun ww hf => eqReceiver_c r.next r.data r.held (.slice v6a r.held.length v6c) r.fin r.done (.slice v8a r.held.length v8c) ww (Own.sl (hf _ m2)) (Own.sl (hf _ m0))) ?_
 intro _
 refine kTS [4] [46,1,2,3,4,10,11,12] 0 [(46,.v (.bool false)),(1,.v (.int .i64 seq)),(2,.v (.string text)),(3,.v (.bool fin)),(4,.p 0 0),(10,.p 1 0),(11,.p 2 0),(12,.p 3 0)] ?_
 refine kZ ?_
 refine kN ?_
 refine kK ?_
 refine kQ ?_
 refine kES [1,2,3,4,10,11,12,13] [(1,.v (.int .i64 seq)),(2,.v (.string text)),(3,.v (.bool fin)),(4,.p 0 0),(10,.p 1 0),(11,.p 2 0),(12,.p 3 0),(13,.v (.int .i64 1))] ?_
 refine kQ ?_
 refine kWS 2 [1,2,3,4,10,12,13,47,48] [(1,.v (.int .i64 seq)),(2,.v (.string text)),(3,.v (.bool fin)),(4,.p 0 0),(10,.p 1 0),(12,.p 3 0),(13,.v (.int .i64 1)),(47,.v (.agg (rcvL r (.slice v6a r.held.length v6c)).toArray)),(48,.v (.int .i64 1))] 11 [.agg (rcvL r (.slice v6a r.held.length v6c)).toArray,.int .i64 1] (some 49) 2 rfl rfl (fun ww b h hb => vblk_lo h hb) (xcm_own marks_ne fun ww hw hf => ymarkReceiver_c r (.slice v6a r.held.length v6c) 1 ww w.heap.size hw (hf (ownF w.heap.size (.slice v6a r.held.length v6c) 2 (r.held.map pceCells)) (by simp)) (by omega) (by omega) (by omega)) ?_
 intro _
 refine kES [1,2,3,4,10,12,13] [(1,.v (.int .i64 seq)),(2,.v (.string text)),(3,.v (.bool fin)),(4,.p 0 0),(10,.p 1 0),(12,.p 3 0),(13,.v (.int .i64 (1 + 2 * (r.held.length : Int))))] ?_
 refine kS ?_
 refine kQ ?_
 refine kRS 3 [1,2,3,4,10,12,52] [(1,.v (.int .i64 seq)),(2,.v (.string text)),(3,.v (.bool fin)),(4,.p 0 0),(10,.p 1 0),(12,.p 3 0),(52,.v (.bool (decide ((1 + 2 * (r.held.length : Int)) < 0))))] ?_
 refine kP 52 (decide ((1 + 2 * (r.held.length : Int)) < 0)) (fun h9 => ?_) (fun h9 => ?_)
 have h9p := of_decide_eq_true h9
 exfalso; have := of_decide_eq_true h9; omega
 have h9p := of_decide_eq_false h9
 refine kCS 2 [1,2,3,4,10,12,52,53,54] [(1,.v (.int .i64 seq)),(2,.v (.string text)),(3,.v (.bool fin)),(4,.p 0 0),(10,.p 1 0),(12,.p 3 0),(52,.v (.bool false)),(53,.v (.agg (rcvL (arrived r seq text fin) (.slice v7a ((arrived r seq text fin).held.length) v7c)).toArray)),(54,.v (.agg (rcvL (arrived r seq text fin) (.slice v5a ((arrived r seq text fin).held.length) v5c)).toArray))] 10 [.agg (rcvL (arrived r seq text fin) (.slice v7a ((arrived r seq text fin).held.length) v7c)).toArray,.agg (rcvL (arrived r seq text fin) (.slice v5a ((arrived r seq text fin).held.length) v5c)).toArray] (some 55) rfl (xc_b fun ww hf => eqReceiver_c ((arrived r seq text fin).next) ((arrived r seq text fin).data) ((arrived r seq text fin).held) (.slice v7a ((arrived r seq text fin).held.length) v7c) ((arrived r seq text fin).fin) ((arrived r seq text fin).done) (.slice v5a ((arrived r seq text fin).held.length) v5c) ww (Own.sl (hf _ m2)) (rowF_sl (hf _ m3))) ?_
 intro _
 refine kES [1,2,3,4,10,12,57] [(1,.v (.int .i64 seq)),(2,.v (.string text)),(3,.v (.bool fin)),(4,.p 0 0),(10,.p 1 0),(12,.p 3 0),(57,.v (.bool false))] ?_
 refine kN ?_
 refine kK ?_
 refine kQ ?_
 refine kES [1,2,3,4,10,12,14] [(1,.v (.int .i64 seq)),(2,.v (.string text)),(3,.v (.bool fin)),(4,.p 0 0),(10,.p 1 0),(12,.p 3 0),(14,.v (.int .i64 1))] ?_
 refine kQ ?_
 refine kWS 2 [1,2,3,4,10,12,14,58,59] [(1,.v (.int .i64 seq)),(2,.v (.string text)),(3,.v (.bool fin)),(4,.p 0 0),(10,.p 1 0),(12,.p 3 0),(14,.v (.int .i64 1)),(58,.v (.agg (rcvL (arrived r seq text fin) (.slice v7a ((arrived r seq text fin).held.length) v7c)).toArray)),(59,.v (.int .i64 1))] 11 [.agg (rcvL (arrived r seq text fin) (.slice v7a ((arrived r seq text fin).held.length) v7c)).toArray,.int .i64 1] (some 60) 2 rfl rfl (fun ww b h hb => vblk_lo h hb) (xcm_own marks_ne fun ww hw hf => ymarkReceiver_c (arrived r seq text fin) (.slice v7a ((arrived r seq text fin).held.length) v7c) 1 ww w.heap.size hw (hf (ownF w.heap.size (.slice v7a ((arrived r seq text fin).held.length) v7c) 2 ((arrived r seq text fin).held.map pceCells)) (by simp)) (by omega) (by omega) (by omega)) ?_
 intro _
 refine kES [1,2,3,4,10,12,14] [(1,.v (.int .i64 seq)),(2,.v (.string text)),(3,.v (.bool fin)),(4,.p 0 0),(10,.p 1 0),(12,.p 3 0),(14,.v (.int .i64 (1 + 2 * (((arrived r seq text fin).held).length : Int))))] ?_
 refine kQ ?_
 refine kES [1,2,3,4,10,12,14,15] [(1,.v (.int .i64 seq)),(2,.v (.string text)),(3,.v (.bool fin)),(4,.p 0 0),(10,.p 1 0),(12,.p 3 0),(14,.v (.int .i64 (1 + 2 * (((arrived r seq text fin).held).length : Int)))),(15,.v (.int .i64 1))] ?_
 refine kQ ?_
 refine kCS 2 [1,2,3,4,10,12,14,15,61,62] [(1,.v (.int .i64 seq)),(2,.v (.string text)),(3,.v (.bool fin)),(4,.p 0 0),(10,.p 1 0),(12,.p 3 0),(14,.v (.int .i64 (1 + 2 * (((arrived r seq text fin).held).length : Int)))),(15,.v (.int .i64 1)),(61,.v (.agg (rcvL { (arrived r seq text fin) with held := (marks mkP 2 1 ((arrived r seq text fin).held).length) } (.slice v7a ((arrived r seq text fin).held.length) v7c)).toArray)),(62,.v (.int .i64 1))] 12 [.agg (rcvL { (arrived r seq text fin) with held := (marks mkP 2 1 ((arrived r seq text fin).held).length) } (.slice v7a ((arrived r seq text fin).held.length) v7c)).toArray,.int .i64 1] (some 63) rfl (xc_b fun ww hf => yheldReceiver_m ((arrived r seq text fin).held).length ((arrived r seq text fin).next) ((arrived r seq text fin).data) ((arrived r seq text fin).fin) ((arrived r seq text fin).done) (.slice v7a ((arrived r seq text fin).held.length) v7c) 1 ww (Own.sl (hf _ m0)) (by omega) (by omega) (by omega)) ?_
 intro _
 refine kES [1,2,3,4,10,12,14,15] [(1,.v (.int .i64 seq)),(2,.v (.string text)),(3,.v (.bool fin)),(4,.p 0 0),(10,.p 1 0),(12,.p 3 0),(14,.v (.int .i64 (1 + 2 * (((arrived r seq text fin).held).length : Int)))),(15,.v (.int .i64 (1 + 2 * (((arrived r seq text fin).held).length : Int))))] ?_
 refine kS ?_
 refine kQ ?_
 refine kES [1,2,3,4,10,12,14,15,65] [(1,.v (.int .i64 seq)),(2,.v (.string text)),(3,.v (.bool fin)),(4,.p 0 0),(10,.p 1 0),(12,.p 3 0),(14,.v (.int .i64 (1 + 2 * (((arrived r seq text fin).held).length : Int)))),(15,.v (.int .i64 (1 + 2 * (((arrived r seq text fin).held).length : Int)))),(65,.v (.bool (decide ((1 + 2 * (((arrived r seq text fin).held).length : Int)) < 0))))] ?_
 refine kC (decide ((1 + 2 * (((arrived r seq text fin).held).length : Int)) < 0)) (fun h10 => ?_) (fun h10 => ?_)
 have h10p := of_decide_eq_true h10
 exfalso; have := of_decide_eq_true h10; omega
 have h10p := of_decide_eq_false h10
 refine kK ?_
 refine kS ?_
 refine kQ ?_
 refine kES [1,2,3,4,10,12,14,68] [(1,.v (.int .i64 seq)),(2,.v (.string text)),(3,.v (.bool fin)),(4,.p 0 0),(10,.p 1 0),(12,.p 3 0),(14,.v (.int .i64 (1 + 2 * (((arrived r seq text fin).held).length : Int)))),(68,.v (.bool ((1 + 2 * (((arrived r seq text fin).held).length : Int)) != (1 + 2 * (((arrived r seq text fin).held).length : Int)))))] ?_
 refine kC ((1 + 2 * (((arrived r seq text fin).held).length : Int)) != (1 + 2 * (((arrived r seq text fin).held).length : Int))) (fun h11 => ?_) (fun h11 => ?_)
 simp at h11
 have h11p := neF h11
 refine kK ?_
 refine kQ ?_
 refine kCS 1 [1,2,3,10,12,14,69] [(1,.v (.int .i64 seq)),(2,.v (.string text)),(3,.v (.bool fin)),(10,.p 1 0),(12,.p 3 0),(14,.v (.int .i64 (1 + 2 * (((arrived r seq text fin).held).length : Int)))),(69,.v (.agg (rcvL r (.slice Arh r.held.length Crh)).toArray))] 8 [.agg (rcvL r (.slice Arh r.held.length Crh)).toArray] (some 70) rfl (xc_on (m := r.held.length) (F := fun v' => .agg (rcvL r v').toArray) (List.length_map ..) fun ww hf => toReceiver_c r.next r.data r.held (.slice Arh r.held.length Crh) r.fin r.done ww (hf _ m5) (by omega)) ?_
 rintro ⟨v12a,v12c⟩
 refine kCS 3 [10,12,14,70,71,72,73] [(10,.p 1 0),(12,.p 3 0),(14,.v (.int .i64 (1 + 2 * (((arrived r seq text fin).held).length : Int)))),(70,.v (.agg (rcvL r (.slice v12a r.held.length v12c)).toArray)),(71,.v (.int .i64 seq)),(72,.v (.string text)),(73,.v (.bool fin))] 9 [.agg (rcvL r (.slice v12a r.held.length v12c)).toArray,.int .i64 seq,.string text,.bool fin] (some 74) rfl (xc_r fun ww hw hf => yiArrived_c r (.slice v12a r.held.length v12c) seq text fin ww (Own.sl (hf _ m0)) (by assumption) (by assumption) (by omega) (by omega) w.heap.size hw) ?_
 rintro ⟨v13a,v13c⟩
 refine kEF [10,12,14,16] ⟨[(10,.p 1 0),(12,.p 3 0),(14,.v (.int .i64 (1 + 2 * (((arrived r seq text fin).held).length : Int)))),(16,.p 4 0)],[⟨24,rcvL r (.slice Arh r.held.length Crh)⟩,⟨28,rcvL (arrived r seq text fin) (.slice v5a ((arrived r seq text fin).held.length) v5c)⟩,⟨28,rcvL { r with held := (marks mkP 2 1 r.held.length) } (.slice v6a r.held.length v6c)⟩,⟨28,rcvL { (arrived r seq text fin) with held := (marks mkP 2 1 ((arrived r seq text fin).held).length) } (.slice v7a ((arrived r seq text fin).held.length) v7c)⟩,⟨28,rcvL (arrived r seq text fin) (.slice v13a ((arrived r seq text fin).held.length) v13c)⟩],[],[ownF w.heap.size (.slice v13a ((arrived r seq text fin).held.length) v13c) 2 ((arrived r seq text fin).held.map pceCells),ownF w.heap.size (.slice v12a r.held.length v12c) 2 (r.held.map pceCells),ownF w.heap.size (.slice v7a ((arrived r seq text fin).held.length) v7c) 2 ((marks mkP 2 1 ((arrived r seq text fin).held).length).map pceCells),ownF w.heap.size (.slice v6a r.held.length v6c) 2 ((marks mkP 2 1 r.held.length).map pceCells),ownF w.heap.size (.slice v8a r.held.length v8c) 2 (r.held.map pceCells),rowF w.heap.size 81 2 (.slice v5a ((arrived r seq text fin).held.length) v5c) ((arrived r seq text fin).held.map pceCells),ownF w.heap.size (.slice v4a r.held.length v4c) 2 (r.held.map pceCells),slF (.slice Arh r.held.length Crh) 2 (r.held.map pceCells)]⟩ ?_
 refine kS ?_
 refine kQ ?_
 refine kCS 2 [12,14,75,76] [(12,.p 3 0),(14,.v (.int .i64 (1 + 2 * (((arrived r seq text fin).held).length : Int)))),(75,.v (.agg (rcvL (arrived r seq text fin) (.slice v13a ((arrived r seq text fin).held.length) v13c)).toArray)),(76,.v (.agg (rcvL (arrived r seq text fin) (.slice v5a ((arrived r seq text fin).held.length) v5c)).toArray))] 10 [.agg (rcvL (arrived r seq text fin) (.slice v13a ((arrived r seq text fin).held.length) v13c)).toArray,.agg (rcvL (arrived r seq text fin) (.slice v5a ((arrived r seq text fin).held.length) v5c)).toArray] (some 77) rfl (xc_b fun ww hf => eqReceiver_c ((arrived r seq text fin).next) ((arrived r seq text fin).data) ((arrived r seq text fin).held) (.slice v13a ((arrived r seq text fin).held.length) v13c) ((arrived r seq text fin).fin) ((arrived r seq text fin).done) (.slice v5a ((arrived r seq text fin).held.length) v5c) ww (Own.sl (hf _ m0)) (rowF_sl (hf _ m5))) ?_
 intro _
 refine kES [12,14,78] [(12,.p 3 0),(14,.v (.int .i64 (1 + 2 * (((arrived r seq text fin).held).length : Int)))),(78,.v (.bool false))] ?_
 refine kN ?_
 refine kK ?_
 refine kQ ?_
 refine kES [12,14,15] [(12,.p 3 0),(14,.v (.int .i64 (1 + 2 * (((arrived r seq text fin).held).length : Int)))),(15,.v (.int .i64 1))] ?_
 refine kQ ?_
 refine kCS 2 [14,15,79,80] [(14,.v (.int .i64 (1 + 2 * (((arrived r seq text fin).held).length : Int)))),(15,.v (.int .i64 1)),(79,.v (.agg (rcvL { (arrived r seq text fin) with held := (marks mkP 2 1 ((arrived r seq text fin).held).length) } (.slice v7a ((arrived r seq text fin).held.length) v7c)).toArray)),(80,.v (.int .i64 1))] 12 [.agg (rcvL { (arrived r seq text fin) with held := (marks mkP 2 1 ((arrived r seq text fin).held).length) } (.slice v7a ((arrived r seq text fin).held.length) v7c)).toArray,.int .i64 1] (some 81) rfl (xc_b fun ww hf => yheldReceiver_m ((arrived r seq text fin).held).length ((arrived r seq text fin).next) ((arrived r seq text fin).data) ((arrived r seq text fin).fin) ((arrived r seq text fin).done) (.slice v7a ((arrived r seq text fin).held.length) v7c) 1 ww (Own.sl (hf _ m2)) (by omega) (by omega) (by omega)) ?_
 intro _
 refine kES [14,15] [(14,.v (.int .i64 (1 + 2 * (((arrived r seq text fin).held).length : Int)))),(15,.v (.int .i64 (1 + 2 * (((arrived r seq text fin).held).length : Int))))] ?_
 refine kS ?_
 refine kQ ?_
 refine kES [14,15,83] [(14,.v (.int .i64 (1 + 2 * (((arrived r seq text fin).held).length : Int)))),(15,.v (.int .i64 (1 + 2 * (((arrived r seq text fin).held).length : Int)))),(83,.v (.bool (decide ((1 + 2 * (((arrived r seq text fin).held).length : Int)) < 0))))] ?_
 refine kC (decide ((1 + 2 * (((arrived r seq text fin).held).length : Int)) < 0)) (fun h14 => ?_) (fun h14 => ?_)
 have h14p := of_decide_eq_true h14
 exfalso; have := of_decide_eq_true h14; omega
 have h14p := of_decide_eq_false h14
 refine kK ?_
 refine kS ?_
 refine kQ ?_
 refine kES [86] [(86,.v (.bool ((1 + 2 * (((arrived r seq text fin).held).length : Int)) != (1 + 2 * (((arrived r seq text fin).held).length : Int)))))] ?_
 refine kC ((1 + 2 * (((arrived r seq text fin).held).length : Int)) != (1 + 2 * (((arrived r seq text fin).held).length : Int))) (fun h15 => ?_) (fun h15 => ?_)
 simp at h15
 have h15p := neF h15
 refine kK ?_
 refine kQ ?_
 refine kES [8] [(8,.v (.bool true))] ?_
 refine kR ?_
 exact ⟨[.bool true],by kernel_rfl,fun w' hb hf => ⟨rfl,hb⟩⟩

set_option maxRecDepth 100000 in
theorem fnExactArrived_lifted (os : Os) (started : os.Started) (H : Type) (enc : TypeId × Value → H) :
    ReturnsInHanded {} Try.checked os 3 .any (Rows.fnExactArrivedSpec.pre6 enc Try.prog Try.f3 Rows.fnExactArrivedRow.domain false) (Rows.fnExactArrivedSpec.post enc Try.prog Try.f3 false true false false) := by
  refine returnsInHanded_of_change (C := Try.checked) Try.ownK started (by kernel_rfl) Try.func3
    (ChangeSpec.witness6 (enc := enc) (C := Try.checked) false ⟨#[], #[.agg #[.int .i64 0, .string ⟨#[]⟩, .slice none 0 0, .int .i64 0, .bool false], .int .i64 0, .string ⟨#[]⟩, .bool false], []⟩ 8 (by kernel_rfl) (by kernel_rfl) (by kernel_rfl) (by kernel_rfl)) ?_
  intro W base args ds gs before hval0 hW hcnd _
  have hval : ∀ (j : Nat) t v, Try.f3.params[j]? = some t → args[j]? = some v → Value.okWide Try.prog W .any base t v := hval0
  have hW' := hW
  obtain ⟨p, q, hA0, hV, rfl, hfz, hnd⟩ := hW
  have hA : DataW.TrodAll enc Try.prog W 0 (fun _ => true) true Try.f3.params.toList args.toList ds p := hA0
  rw [Try.params3] at hA hval
  obtain ⟨v0, vs0, d0, ds0, p0, q0, hargs, rfl, rfl, h0, r0⟩ := trodAll_cons hA
  obtain ⟨v1, vs1, d1, ds1, p1, q1, rfl, rfl, rfl, h1, r1⟩ := trodAll_cons r0
  obtain ⟨v2, vs2, d2, ds2, p2, q2, rfl, rfl, rfl, h2, r2⟩ := trodAll_cons r1
  obtain ⟨v3, vs3, d3, ds3, p3, q3, rfl, rfl, rfl, h3, r3⟩ := trodAll_cons r2
  obtain ⟨rfl, rfl, rfl⟩ := trodAll_nil r3
  obtain rfl : args = #[v0, v1, v2, v3] := by cases args; simp_all
  obtain ⟨rfl, rfl⟩ := trodVars_none hV
  clear hA0 hval0
  have g0 := h0
  have g1 := h1
  have g2 := h2
  have g3 := h3
  obtain ⟨cs0, rfl, -⟩ := okWide_struct Try.underlying24 (hval 0 _ v0 rfl rfl)
  obtain ⟨fuel0, f0⟩ := g0
  obtain ⟨r_next, r_data, r_held_v, r_fin, r_done, e0, F_r_next, F_r_data, F_r_held, F_r_fin⟩ := open_RCV f0
  obtain rfl : cs0 = #[.int .i64 r_next, .string r_data, r_held_v, .int .i64 r_fin, .bool r_done] := by cases cs0; simpa [Value.cells] using e0
  clear e0
  obtain ⟨_, _, T_r_held⟩ := F_r_held
  obtain ⟨r_held, L_r_held, M_r_held⟩ := openSc_PCE T_r_held
  obtain ⟨a1, rfl, rfl, rfl, w1⟩ := open_int Try.underlying3 (hval 1 _ v1 rfl rfl) g1
  obtain ⟨a2, rfl, w2⟩ := openS_str (hval 2 _ v2 rfl rfl) g2
  obtain ⟨a3, rfl, rfl, rfl⟩ := open_bool Try.underlying4 (hval 3 _ v3 rfl rfl) g3
  refine (fnExactArrived_walk (⟨r_next, r_data, r_held, r_fin, r_done⟩ : Rcv) r_held_v a1 a2 a3 W F_r_data L_r_held M_r_held (wf_i64 w1) w2).mono fun e W' ⟨he, hb⟩ => ?_
  subst he
  have hlt : ∀ x ∈ (p0 ++ (([] : List MemPlace) ++ (p2 ++ (([] : List MemPlace) ++ ([]))))) ++ [], x.block < W.heap.size := fun x hx => hW'.lt x hx
  refine ⟨_, rfl, post_of_below (pa := (p0 ++ (([] : List MemPlace) ++ (p2 ++ (([] : List MemPlace) ++ ([])))))) (pv := []) hW' (fun _ _ _ => trodAll_cons_mk (shut_bool Try.underlying4 _) trodAll_mk0) (fun sp hsp => trodAll_cons_mk (WideElems.Trod_stays Try.laidOut (by kernel_rfl) (of_decide_eq_true (by kernel_rfl)) h0 (fun x hx => hb.same (hlt x (List.mem_append_left _ (List.mem_append_left _ hx)))) (fun x hx => hsp x (List.mem_append_left _ (List.mem_append_left _ hx)))) (trodAll_cons_mk (WideElems.Trod_stays Try.laidOut (by kernel_rfl) (of_decide_eq_true (by kernel_rfl)) h1 (fun x hx => hb.same (hlt x (List.mem_append_left _ (List.mem_append_right _ (List.mem_append_left _ hx))))) (fun x hx => hsp x (List.mem_append_left _ (List.mem_append_right _ (List.mem_append_left _ hx))))) (trodAll_cons_mk (WideElems.Trod_stays Try.laidOut (by kernel_rfl) (of_decide_eq_true (by kernel_rfl)) h2 (fun x hx => hb.same (hlt x (List.mem_append_left _ (List.mem_append_right _ (List.mem_append_right _ (List.mem_append_left _ hx)))))) (fun x hx => hsp x (List.mem_append_left _ (List.mem_append_right _ (List.mem_append_right _ (List.mem_append_left _ hx)))))) (trodAll_cons_mk (WideElems.Trod_stays Try.laidOut (by kernel_rfl) (of_decide_eq_true (by kernel_rfl)) h3 (fun x hx => hb.same (hlt x (List.mem_append_left _ (List.mem_append_right _ (List.mem_append_right _ (List.mem_append_right _ (List.mem_append_left _ hx))))))) (fun x hx => hsp x (List.mem_append_left _ (List.mem_append_right _ (List.mem_append_right _ (List.mem_append_right _ (List.mem_append_left _ hx))))))) (trodAll_mk0))))) (fun _ _ => rfl) rfl hb (ok_one (by kernel_rfl) rfl (okWide_bool_mk Try.underlying4 _))⟩

theorem fnExactArrived_over : Rows.fnExactArrivedRow.holds Try.pinned (OpenSpec.ofChange Rows.fnExactArrivedSpec) :=
  OpenClaim.holds_of_wide 3 Try.f3 rfl rfl rfl rfl rfl rfl rfl ⟨rfl, rfl, rfl, rfl, rfl⟩ rfl rfl rfl rfl rfl (by kernel_rfl) Try.func3 (by kernel_rfl)
    (of_decide_eq_true (by kernel_rfl)) (by unfold Func.isWrapper; first | (rw [if_pos (by decide +kernel)]; kernel_rfl) | (rw [if_neg (by decide +kernel)]; exact ⟨rfl, rfl⟩))
    (fun os started H enc _ => fnExactArrived_lifted os started H enc)

theorem fnExactArrived_holds : Rows.FnExactArrivedSaid := fnExactArrived_over
#print axioms fnExactArrived_holds
end Go.Proofs.Ytebgmdiejgcoiaa
