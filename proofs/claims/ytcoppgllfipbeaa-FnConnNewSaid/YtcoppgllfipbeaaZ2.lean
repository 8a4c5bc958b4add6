/- Contracts that this law needs, part 2. -/
import Derived.Test.YtcoppgllfipbeaaZ1
namespace Go.Proofs.Ytcoppgllfipbeaa
open Go.RowKit
set_option linter.unusedVariables false
set_option linter.unusedSimpArgs false
set_option maxRecDepth 100000

set_option maxHeartbeats 1000000 in
theorem ysConnNew_c (t : Tup) (iss : Int) (irs : Int) (o : Opt) (window : Int) (w : World)  (B : Nat) (hB : B ≤ w.heap.size) : Calls Try.prog 20 #[.agg (tupL t).toArray, .int .i64 iss, .int .i64 irs, .agg (optL o).toArray, .int .i64 window] w fun e w' => XRs w w' e (α := Option Addr × Nat) (fun y => .agg (conL (connNew t iss irs o window) (.slice y.1 ((connNew t iss irs o window).r.held.length) y.2)).toArray) (fun y => [ownF B (.slice y.1 ((connNew t iss irs o window).r.held.length) y.2) 2 ((connNew t iss irs o window).r.held.map pceCells)]) := by
  refine x_callsA (args := [.agg (tupL t).toArray,.int .i64 iss,.int .i64 irs,.agg (optL o).toArray,.int .i64 window]) (fn := Try.f20) [] Try.func20 rfl Try.ntmps20 rfl (by simp) ?_
  refine xw_seq ?_
  refine xw_region ?_
  refine xl_end [1,2,4,5,8,10] ⟨[(1,.v (.int .i64 iss)),(2,.v (.int .i64 irs)),(4,.v (.int .i64 window)),(5,.p 0 0),(8,.p 1 0),(10,.p 2 0)],[⟨36,tupL t⟩,⟨25,optL o⟩,⟨45,conZ⟩],[],[]⟩ (by kernel_rfl) ?_
  refine xw_seq ?_
  refine xw_seq ?_
  refine xw_region ?_
  refine xl_callS 1 [1,2,4,5,8,10,12] [(1,.v (.int .i64 iss)),(2,.v (.int .i64 irs)),(4,.v (.int .i64 window)),(5,.p 0 0),(8,.p 1 0),(10,.p 2 0),(12,.v (.agg (optL o).toArray))] 11 [.agg (optL o).toArray] (some 13) (by kernel_rfl) rfl (by kernel_rfl) rfl (by kernel_rfl) (xc_b fun ww hf => sOptionsOk_c o.mss o.scale o.sack o.stamp o.val o.echo ww ) ?_
  intro _
  refine xl_endS [1,2,4,5,8,10,14] [(1,.v (.int .i64 iss)),(2,.v (.int .i64 irs)),(4,.v (.int .i64 window)),(5,.p 0 0),(8,.p 1 0),(10,.p 2 0),(14,.v (.bool (!(optionsOk o))))] (by kernel_rfl) ?_
  refine xw_cond (b := !(optionsOk o)) (by kernel_rfl) (fun h1 => ?_) (fun h1 => ?_)
  have h1n := not_t h1
  refine xw_region ?_
  refine xl_callS 0 [1,2,4,5,8,10] [(1,.v (.int .i64 iss)),(2,.v (.int .i64 irs)),(4,.v (.int .i64 window)),(5,.p 0 0),(8,.p 1 0),(10,.p 2 0)] 40 [] (some 15) (by kernel_rfl) rfl (by kernel_rfl) rfl (by kernel_rfl) (xc_b fun ww hf => sNoOptions_c  ww ) ?_
  intro _
  refine xl_end [1,2,4,5,8,10] ⟨[(1,.v (.int .i64 iss)),(2,.v (.int .i64 irs)),(4,.v (.int .i64 window)),(5,.p 0 0),(8,.p 1 0),(10,.p 2 0)],[⟨36,tupL t⟩,⟨25,[.int .i64 0,.int .i64 (-1),.bool false,.bool false,.int .i64 0,.int .i64 0]⟩,⟨45,conZ⟩],[],[]⟩ (by kernel_rfl) ?_
  refine xw_seq ?_
  refine xw_seq ?_
  refine xw_region ?_
  refine xl_callS 1 [1,2,4,5,8,10,16] [(1,.v (.int .i64 iss)),(2,.v (.int .i64 irs)),(4,.v (.int .i64 window)),(5,.p 0 0),(8,.p 1 0),(10,.p 2 0),(16,.v (.int .i64 window))] 41 [.int .i64 window,.int .i64 16] (some 17) (by kernel_rfl) rfl (by kernel_rfl) rfl (by kernel_rfl) (xc_s fun ww hf => sWordOk16_c window ww) ?_
  intro _
  refine xl_endS [1,2,4,5,8,10,18] [(1,.v (.int .i64 iss)),(2,.v (.int .i64 irs)),(4,.v (.int .i64 window)),(5,.p 0 0),(8,.p 1 0),(10,.p 2 0),(18,.v (.bool (!(wordOk window 16))))] (by kernel_rfl) ?_
  refine xw_cond (b := !(wordOk window 16)) (by kernel_rfl) (fun h2 => ?_) (fun h2 => ?_)
  have h2n := not_t h2
  refine xw_region ?_
  refine xl_endS [1,2,4,5,8,10] [(1,.v (.int .i64 iss)),(2,.v (.int .i64 irs)),(4,.v (.int .i64 0)),(5,.p 0 0),(8,.p 1 0),(10,.p 2 0)] (by kernel_rfl) ?_
  refine xw_seq ?_
  refine xw_region ?_
  refine xl_callS 3 [1,2,5,8,10,19,21] [(1,.v (.int .i64 iss)),(2,.v (.int .i64 irs)),(5,.p 0 0),(8,.p 1 0),(10,.p 2 0),(19,.v (.int .i64 0)),(21,.v (.int .i64 (-1)))] 56 [.int .i64 0,.int .i64 (-1)] (some 22) (by kernel_rfl) rfl (by kernel_rfl) rfl (by kernel_rfl) (xc_s fun ww hf => l1Max_c 0 (-1) ww ) ?_
  intro _
  refine xl_opS 1 [1,2,5,8,10,19,23] [(1,.v (.int .i64 iss)),(2,.v (.int .i64 irs)),(5,.p 0 0),(8,.p 1 0),(10,.p 2 0),(19,.v (.int .i64 0)),(23,.v (.int .u64 (IntKind.u64.wrap (max 0 (-1)))))] (.int .i64 (IntKind.i64.wrap (0 * 2 ^ (IntKind.u64.wrap (max 0 (-1))).toNat))) (by kernel_rfl) rfl (by kernel_rfl) rfl (fun _ _ _ ww hr => act_bin hr.1 rfl (by kernel_rfl) (by kernel_rfl) (shl_run (k' := .u64) (by have e : ((IntKind.i64.bits : Nat) : Int) = 64 := rfl; (try rw [u64_id (by omega) (by omega)]); omega) (by have e : ((IntKind.i64.bits : Nat) : Int) = 64 := rfl; (try rw [u64_id (by omega) (by omega)]); omega) ww)) ?_
  refine xl_runS 1 [1,2,5,8,10,11] [(1,.v (.int .i64 iss)),(2,.v (.int .i64 irs)),(5,.p 0 0),(8,.p 1 0),(10,.p 2 0),(11,.v (.int .i64 (IntKind.i64.wrap (0 * 2 ^ (IntKind.u64.wrap (max 0 (-1))).toNat))))] (by kernel_rfl) ?_
  refine xl_eqS (t' := [(1,.v (.int .i64 iss)),(2,.v (.int .i64 irs)),(5,.p 0 0),(8,.p 1 0),(10,.p 2 0),(11,.v (.int .i64 (0 * 2 ^ (max 0 (-1) : Int).toNat)))]) (by rw [show (IntKind.u64.wrap (max 0 (-1))) = (max 0 (-1) : Int) from u64_id (by omega) (by omega),show (IntKind.i64.wrap (0 * 2 ^ (max 0 (-1) : Int).toNat)) = (0 * 2 ^ (max 0 (-1) : Int).toNat) from far_wrap (by omega) (by omega) (by omega) (by omega)]) ?_
  refine xl_endS [1,2,5,8,10,11] [(1,.v (.int .i64 iss)),(2,.v (.int .i64 irs)),(5,.p 0 0),(8,.p 1 0),(10,.p 2 0),(11,.v (.int .i64 (0 * 2 ^ (max 0 (-1) : Int).toNat)))] (by kernel_rfl) ?_
  refine xw_seq ?_
  refine xe_region [true,true,false] (by kernel_rfl) (fun ρ σ => ?_)
  refine xe_tkS [0,1,4,7,8,9] [34,33,32,29,26,25,10] 6 [(34,.v (.agg #[.int .i64 0,.int .i64 (-1),.bool false,.bool false,.int .i64 0,.int .i64 0])),(33,.v (.int .i64 (0 * 2 ^ (max 0 (-1) : Int).toNat))),(32,.v (.int .i64 (0 * 2 ^ (max 0 (-1) : Int).toNat))),(29,.v (.int .i64 irs)),(26,.v (.int .i64 iss)),(25,.v (.agg (tupL t).toArray)),(10,.p 2 0)] (fun _ _ h => h) rfl (by kernel_rfl) ?_
  refine xe_all [2] (by kernel_rfl) (by simp) ?_
  refine xs_call 2 24 [.int .i64 iss,.int .i64 1] (some 27) rfl (by kernel_rfl) rfl (by kernel_rfl) (xc_s fun ww hf => sSeqAdd_c iss 1 ww ) ?_
  intro _
  refine xe_op 3 (.agg #[.int .i64 (seqAdd iss 1),.string (⟨#[]⟩ : ByteArray),.int .i64 0,.bool false,.bool false,.bool false]) _ rfl (by kernel_rfl) (by kernel_rfl) (by kernel_rfl) (fun _ _ h => h) (by kernel_rfl) rfl (fun _ _ ww hA => act_build [(0,.int .i64 (seqAdd iss 1))] hA rfl (by kernel_rfl) (by kernel_rfl) ww) rfl ?_
  refine xe_all [5] (by kernel_rfl) (by simp) ?_
  refine xs_call 5 24 [.int .i64 irs,.int .i64 1] (some 30) rfl (by kernel_rfl) rfl (by kernel_rfl) (xc_s fun ww hf => sSeqAdd_c irs 1 ww ) ?_
  intro _
  refine xe_all [6] (by kernel_rfl) (by simp) ?_
  refine xs_call 6 57 [.int .i64 (seqAdd irs 1)] (some 31) rfl (by kernel_rfl) rfl (by kernel_rfl) (xc_r fun ww hw hf => ysReceiverNew_c (seqAdd irs 1) ww   w.heap.size hw) ?_
  rintro ⟨v3a,v3c⟩
  refine xe_op 10 (.agg #[.int .i64 t.ip,.int .i64 t.port,.int .i64 t.my,.int .i64 1,.int .i64 (seqAdd iss 1),.string (⟨#[]⟩ : ByteArray),.int .i64 0,.bool false,.bool false,.bool false,.int .i64 ((receiverNew (seqAdd irs 1)).next),.string ((receiverNew (seqAdd irs 1)).data),.slice v3a ((receiverNew (seqAdd irs 1)).held.length) v3c,.int .i64 ((receiverNew (seqAdd irs 1)).fin),.bool ((receiverNew (seqAdd irs 1)).done),.int .i64 (0 * 2 ^ (max 0 (-1) : Int).toNat),.int .i64 (0 * 2 ^ (max 0 (-1) : Int).toNat),.int .i64 0,.int .i64 (-1),.bool false,.bool false,.int .i64 0,.int .i64 0,.int .i64 0,.int .i64 0]) _ rfl (by kernel_rfl) (by kernel_rfl) (by kernel_rfl) (fun _ _ h => h) (by kernel_rfl) rfl (fun _ _ ww hA => act_build [(0,.agg (tupL t).toArray),(1,.int .i64 1),(2,.agg #[.int .i64 (seqAdd iss 1),.string (⟨#[]⟩ : ByteArray),.int .i64 0,.bool false,.bool false,.bool false]),(3,.agg (rcvL (receiverNew (seqAdd irs 1)) (.slice v3a ((receiverNew (seqAdd irs 1)).held.length) v3c)).toArray),(4,.int .i64 (0 * 2 ^ (max 0 (-1) : Int).toNat)),(5,.int .i64 (0 * 2 ^ (max 0 (-1) : Int).toNat)),(6,.agg #[.int .i64 0,.int .i64 (-1),.bool false,.bool false,.int .i64 0,.int .i64 0])] hA rfl (by kernel_rfl) (by kernel_rfl) ww) rfl ?_
  refine xe_all [11] (by kernel_rfl) (by simp) ?_
  refine xs_store 11 2 0 [.int .i64 t.ip,.int .i64 t.port,.int .i64 t.my,.int .i64 1,.int .i64 (seqAdd iss 1),.string (⟨#[]⟩ : ByteArray),.int .i64 0,.bool false,.bool false,.bool false,.int .i64 ((receiverNew (seqAdd irs 1)).next),.string ((receiverNew (seqAdd irs 1)).data),.slice v3a ((receiverNew (seqAdd irs 1)).held.length) v3c,.int .i64 ((receiverNew (seqAdd irs 1)).fin),.bool ((receiverNew (seqAdd irs 1)).done),.int .i64 (0 * 2 ^ (max 0 (-1) : Int).toNat),.int .i64 (0 * 2 ^ (max 0 (-1) : Int).toNat),.int .i64 0,.int .i64 (-1),.bool false,.bool false,.int .i64 0,.int .i64 0,.int .i64 0,.int .i64 0] _ rfl (by kernel_rfl) (by kernel_rfl) (by kernel_rfl) (by kernel_rfl) (by first | exact .inr rfl | exact .inl rfl) (by kernel_rfl) rfl ?_
  refine xe_done (by kernel_rfl) ?_
  refine xw_ret ?_
  have hmod : connNew t iss irs o window = (⟨t,1,⟨seqAdd iss 1,(⟨#[]⟩ : ByteArray),0,false,false,false⟩,(receiverNew (seqAdd irs 1)),0 * 2 ^ (max 0 (-1) : Int).toNat,0 * 2 ^ (max 0 (-1) : Int).toNat,⟨0,(-1),false,false,0,0⟩,0,0⟩) := by first | rfl | (simp [connNew,farW,receiverNew, *]; done) | grind [connNew,farW,receiverNew]
  exact ⟨[.agg #[.int .i64 t.ip,.int .i64 t.port,.int .i64 t.my,.int .i64 1,.int .i64 (seqAdd iss 1),.string (⟨#[]⟩ : ByteArray),.int .i64 0,.bool false,.bool false,.bool false,.int .i64 ((receiverNew (seqAdd irs 1)).next),.string ((receiverNew (seqAdd irs 1)).data),.slice v3a ((receiverNew (seqAdd irs 1)).held.length) v3c,.int .i64 ((receiverNew (seqAdd irs 1)).fin),.bool ((receiverNew (seqAdd irs 1)).done),.int .i64 (0 * 2 ^ (max 0 (-1) : Int).toNat),.int .i64 (0 * 2 ^ (max 0 (-1) : Int).toNat),.int .i64 0,.int .i64 (-1),.bool false,.bool false,.int .i64 0,.int .i64 0,.int .i64 0,.int .i64 0]],by kernel_rfl,fun w' hb hf ha => by rw [hmod]; exact xr_one ((v3a,v3c)) rfl rfl (ownF_ownF (hf (ownF w.heap.size (.slice v3a ((receiverNew (seqAdd irs 1)).held.length) v3c) 2 ((receiverNew (seqAdd irs 1)).held.map pceCells)) (by simp)) hB) (fun b hb => ownF_lo (hf (ownF w.heap.size (.slice v3a ((receiverNew (seqAdd irs 1)).held.length) v3c) 2 ((receiverNew (seqAdd irs 1)).held.map pceCells)) (by simp)) hb) hb⟩
  have h2n := not_f h2
  have h2nw := wordOk16_bd (by simpa using h2n)
  obtain ⟨h2nw0,h2nw1⟩ := h2nw
  refine xw_skip ?_
  refine xw_seq ?_
  refine xw_region ?_
  refine xl_callS 3 [1,2,5,8,10,19,21] [(1,.v (.int .i64 iss)),(2,.v (.int .i64 irs)),(5,.p 0 0),(8,.p 1 0),(10,.p 2 0),(19,.v (.int .i64 window)),(21,.v (.int .i64 (-1)))] 56 [.int .i64 0,.int .i64 (-1)] (some 22) (by kernel_rfl) rfl (by kernel_rfl) rfl (by kernel_rfl) (xc_s fun ww hf => l1Max_c 0 (-1) ww ) ?_
  intro _
  refine xl_opS 1 [1,2,5,8,10,19,23] [(1,.v (.int .i64 iss)),(2,.v (.int .i64 irs)),(5,.p 0 0),(8,.p 1 0),(10,.p 2 0),(19,.v (.int .i64 window)),(23,.v (.int .u64 (IntKind.u64.wrap (max 0 (-1)))))] (.int .i64 (IntKind.i64.wrap (window * 2 ^ (IntKind.u64.wrap (max 0 (-1))).toNat))) (by kernel_rfl) rfl (by kernel_rfl) rfl (fun _ _ _ ww hr => act_bin hr.1 rfl (by kernel_rfl) (by kernel_rfl) (shl_run (k' := .u64) (by have e : ((IntKind.i64.bits : Nat) : Int) = 64 := rfl; (try rw [u64_id (by omega) (by omega)]); omega) (by have e : ((IntKind.i64.bits : Nat) : Int) = 64 := rfl; (try rw [u64_id (by omega) (by omega)]); omega) ww)) ?_
  refine xl_runS 1 [1,2,5,8,10,11] [(1,.v (.int .i64 iss)),(2,.v (.int .i64 irs)),(5,.p 0 0),(8,.p 1 0),(10,.p 2 0),(11,.v (.int .i64 (IntKind.i64.wrap (window * 2 ^ (IntKind.u64.wrap (max 0 (-1))).toNat))))] (by kernel_rfl) ?_
  refine xl_eqS (t' := [(1,.v (.int .i64 iss)),(2,.v (.int .i64 irs)),(5,.p 0 0),(8,.p 1 0),(10,.p 2 0),(11,.v (.int .i64 (window * 2 ^ (max 0 (-1) : Int).toNat)))]) (by rw [show (IntKind.u64.wrap (max 0 (-1))) = (max 0 (-1) : Int) from u64_id (by omega) (by omega),show (IntKind.i64.wrap (window * 2 ^ (max 0 (-1) : Int).toNat)) = (window * 2 ^ (max 0 (-1) : Int).toNat) from far_wrap (by omega) (by omega) (by omega) (by omega)]) ?_
  refine xl_endS [1,2,5,8,10,11] [(1,.v (.int .i64 iss)),(2,.v (.int .i64 irs)),(5,.p 0 0),(8,.p 1 0),(10,.p 2 0),(11,.v (.int .i64 (window * 2 ^ (max 0 (-1) : Int).toNat)))] (by kernel_rfl) ?_
  refine xw_seq ?_
  refine xe_region [true,true,false] (by kernel_rfl) (fun ρ σ => ?_)
  refine xe_tkS [0,1,4,7,8,9] [34,33,32,29,26,25,10] 6 [(34,.v (.agg #[.int .i64 0,.int .i64 (-1),.bool false,.bool false,.int .i64 0,.int .i64 0])),(33,.v (.int .i64 (window * 2 ^ (max 0 (-1) : Int).toNat))),(32,.v (.int .i64 (window * 2 ^ (max 0 (-1) : Int).toNat))),(29,.v (.int .i64 irs)),(26,.v (.int .i64 iss)),(25,.v (.agg (tupL t).toArray)),(10,.p 2 0)] (fun _ _ h => h) rfl (by kernel_rfl) ?_
  refine xe_all [2] (by kernel_rfl) (by simp) ?_
  refine xs_call 2 24 [.int .i64 iss,.int .i64 1] (some 27) rfl (by kernel_rfl) rfl (by kernel_rfl) (xc_s fun ww hf => sSeqAdd_c iss 1 ww ) ?_
  intro _
  refine xe_op 3 (.agg #[.int .i64 (seqAdd iss 1),.string (⟨#[]⟩ : ByteArray),.int .i64 0,.bool false,.bool false,.bool false]) _ rfl (by kernel_rfl) (by kernel_rfl) (by kernel_rfl) (fun _ _ h => h) (by kernel_rfl) rfl (fun _ _ ww hA => act_build [(0,.int .i64 (seqAdd iss 1))] hA rfl (by kernel_rfl) (by kernel_rfl) ww) rfl ?_
  refine xe_all [5] (by kernel_rfl) (by simp) ?_
  refine xs_call 5 24 [.int .i64 irs,.int .i64 1] (some 30) rfl (by kernel_rfl) rfl (by kernel_rfl) (xc_s fun ww hf => sSeqAdd_c irs 1 ww ) ?_
  intro _
  refine xe_all [6] (by kernel_rfl) (by simp) ?_
  refine xs_call 6 57 [.int .i64 (seqAdd irs 1)] (some 31) rfl (by kernel_rfl) rfl (by kernel_rfl) (xc_r fun ww hw hf => ysReceiverNew_c (seqAdd irs 1) ww   w.heap.size hw) ?_
  rintro ⟨v4a,v4c⟩
  refine xe_op 10 (.agg #[.int .i64 t.ip,.int .i64 t.port,.int .i64 t.my,.int .i64 1,.int .i64 (seqAdd iss 1),.string (⟨#[]⟩ : ByteArray),.int .i64 0,.bool false,.bool false,.bool false,.int .i64 ((receiverNew (seqAdd irs 1)).next),.string ((receiverNew (seqAdd irs 1)).data),.slice v4a ((receiverNew (seqAdd irs 1)).held.length) v4c,.int .i64 ((receiverNew (seqAdd irs 1)).fin),.bool ((receiverNew (seqAdd irs 1)).done),.int .i64 (window * 2 ^ (max 0 (-1) : Int).toNat),.int .i64 (window * 2 ^ (max 0 (-1) : Int).toNat),.int .i64 0,.int .i64 (-1),.bool false,.bool false,.int .i64 0,.int .i64 0,.int .i64 0,.int .i64 0]) _ rfl (by kernel_rfl) (by kernel_rfl) (by kernel_rfl) (fun _ _ h => h) (by kernel_rfl) rfl (fun _ _ ww hA => act_build [(0,.agg (tupL t).toArray),(1,.int .i64 1),(2,.agg #[.int .i64 (seqAdd iss 1),.string (⟨#[]⟩ : ByteArray),.int .i64 0,.bool false,.bool false,.bool false]),(3,.agg (rcvL (receiverNew (seqAdd irs 1)) (.slice v4a ((receiverNew (seqAdd irs 1)).held.length) v4c)).toArray),(4,.int .i64 (window * 2 ^ (max 0 (-1) : Int).toNat)),(5,.int .i64 (window * 2 ^ (max 0 (-1) : Int).toNat)),(6,.agg #[.int .i64 0,.int .i64 (-1),.bool false,.bool false,.int .i64 0,.int .i64 0])] hA rfl (by kernel_rfl) (by kernel_rfl) ww) rfl ?_
  refine xe_all [11] (by kernel_rfl) (by simp) ?_
  refine xs_store 11 2 0 [.int .i64 t.ip,.int .i64 t.port,.int .i64 t.my,.int .i64 1,.int .i64 (seqAdd iss 1),.string (⟨#[]⟩ : ByteArray),.int .i64 0,.bool false,.bool false,.bool false,.int .i64 ((receiverNew (seqAdd irs 1)).next),.string ((receiverNew (seqAdd irs 1)).data),.slice v4a ((receiverNew (seqAdd irs 1)).held.length) v4c,.int .i64 ((receiverNew (seqAdd irs 1)).fin),.bool ((receiverNew (seqAdd irs 1)).done),.int .i64 (window * 2 ^ (max 0 (-1) : Int).toNat),.int .i64 (window * 2 ^ (max 0 (-1) : Int).toNat),.int .i64 0,.int .i64 (-1),.bool false,.bool false,.int .i64 0,.int .i64 0,.int .i64 0,.int .i64 0] _ rfl (by kernel_rfl) (by kernel_rfl) (by kernel_rfl) (by kernel_rfl) (by first | exact .inr rfl | exact .inl rfl) (by kernel_rfl) rfl ?_
  refine xe_done (by kernel_rfl) ?_
  refine xw_ret ?_
  have hmod : connNew t iss irs o window = (⟨t,1,⟨seqAdd iss 1,(⟨#[]⟩ : ByteArray),0,false,false,false⟩,(receiverNew (seqAdd irs 1)),window * 2 ^ (max 0 (-1) : Int).toNat,window * 2 ^ (max 0 (-1) : Int).toNat,⟨0,(-1),false,false,0,0⟩,0,0⟩) := by first | rfl | (simp [connNew,farW,receiverNew, *]; done) | grind [connNew,farW,receiverNew]
  exact ⟨[.agg #[.int .i64 t.ip,.int .i64 t.port,.int .i64 t.my,.int .i64 1,.int .i64 (seqAdd iss 1),.string (⟨#[]⟩ : ByteArray),.int .i64 0,.bool false,.bool false,.bool false,.int .i64 ((receiverNew (seqAdd irs 1)).next),.string ((receiverNew (seqAdd irs 1)).data),.slice v4a ((receiverNew (seqAdd irs 1)).held.length) v4c,.int .i64 ((receiverNew (seqAdd irs 1)).fin),.bool ((receiverNew (seqAdd irs 1)).done),.int .i64 (window * 2 ^ (max 0 (-1) : Int).toNat),.int .i64 (window * 2 ^ (max 0 (-1) : Int).toNat),.int .i64 0,.int .i64 (-1),.bool false,.bool false,.int .i64 0,.int .i64 0,.int .i64 0,.int .i64 0]],by kernel_rfl,fun w' hb hf ha => by rw [hmod]; exact xr_one ((v4a,v4c)) rfl rfl (ownF_ownF (hf (ownF w.heap.size (.slice v4a ((receiverNew (seqAdd irs 1)).held.length) v4c) 2 ((receiverNew (seqAdd irs 1)).held.map pceCells)) (by simp)) hB) (fun b hb => ownF_lo (hf (ownF w.heap.size (.slice v4a ((receiverNew (seqAdd irs 1)).held.length) v4c) 2 ((receiverNew (seqAdd irs 1)).held.map pceCells)) (by simp)) hb) hb⟩
  have h1n := not_f h1
  have h1nw := optionsOk_bd (by simpa using h1n)
  obtain ⟨h1nw0,h1nw1⟩ := h1nw
  refine xw_skip ?_
  refine xw_seq ?_
  refine xw_seq ?_
  refine xw_region ?_
  refine xl_callS 1 [1,2,4,5,8,10,16] [(1,.v (.int .i64 iss)),(2,.v (.int .i64 irs)),(4,.v (.int .i64 window)),(5,.p 0 0),(8,.p 1 0),(10,.p 2 0),(16,.v (.int .i64 window))] 41 [.int .i64 window,.int .i64 16] (some 17) (by kernel_rfl) rfl (by kernel_rfl) rfl (by kernel_rfl) (xc_s fun ww hf => sWordOk16_c window ww) ?_
  intro _
  refine xl_endS [1,2,4,5,8,10,18] [(1,.v (.int .i64 iss)),(2,.v (.int .i64 irs)),(4,.v (.int .i64 window)),(5,.p 0 0),(8,.p 1 0),(10,.p 2 0),(18,.v (.bool (!(wordOk window 16))))] (by kernel_rfl) ?_
  refine xw_cond (b := !(wordOk window 16)) (by kernel_rfl) (fun h5 => ?_) (fun h5 => ?_)
  have h5n := not_t h5
  refine xw_region ?_
  refine xl_endS [1,2,4,5,8,10] [(1,.v (.int .i64 iss)),(2,.v (.int .i64 irs)),(4,.v (.int .i64 0)),(5,.p 0 0),(8,.p 1 0),(10,.p 2 0)] (by kernel_rfl) ?_
  refine xw_seq ?_
  refine xw_region ?_
  refine xl_callS 3 [1,2,5,8,10,19,21] [(1,.v (.int .i64 iss)),(2,.v (.int .i64 irs)),(5,.p 0 0),(8,.p 1 0),(10,.p 2 0),(19,.v (.int .i64 0)),(21,.v (.int .i64 o.scale))] 56 [.int .i64 0,.int .i64 o.scale] (some 22) (by kernel_rfl) rfl (by kernel_rfl) rfl (by kernel_rfl) (xc_s fun ww hf => l1Max_c 0 o.scale ww ) ?_
  intro _
  refine xl_opS 1 [1,2,5,8,10,19,23] [(1,.v (.int .i64 iss)),(2,.v (.int .i64 irs)),(5,.p 0 0),(8,.p 1 0),(10,.p 2 0),(19,.v (.int .i64 0)),(23,.v (.int .u64 (IntKind.u64.wrap (max 0 o.scale))))] (.int .i64 (IntKind.i64.wrap (0 * 2 ^ (IntKind.u64.wrap (max 0 o.scale)).toNat))) (by kernel_rfl) rfl (by kernel_rfl) rfl (fun _ _ _ ww hr => act_bin hr.1 rfl (by kernel_rfl) (by kernel_rfl) (shl_run (k' := .u64) (by have e : ((IntKind.i64.bits : Nat) : Int) = 64 := rfl; (try rw [u64_id (by omega) (by omega)]); omega) (by have e : ((IntKind.i64.bits : Nat) : Int) = 64 := rfl; (try rw [u64_id (by omega) (by omega)]); omega) ww)) ?_
  refine xl_runS 1 [1,2,5,8,10,11] [(1,.v (.int .i64 iss)),(2,.v (.int .i64 irs)),(5,.p 0 0),(8,.p 1 0),(10,.p 2 0),(11,.v (.int .i64 (IntKind.i64.wrap (0 * 2 ^ (IntKind.u64.wrap (max 0 o.scale)).toNat))))] (by kernel_rfl) ?_
  refine xl_eqS (t' := [(1,.v (.int .i64 iss)),(2,.v (.int .i64 irs)),(5,.p 0 0),(8,.p 1 0),(10,.p 2 0),(11,.v (.int .i64 (0 * 2 ^ (max 0 o.scale).toNat)))]) (by rw [show (IntKind.u64.wrap (max 0 o.scale)) = (max 0 o.scale) from u64_id (by omega) (by omega),show (IntKind.i64.wrap (0 * 2 ^ (max 0 o.scale).toNat)) = (0 * 2 ^ (max 0 o.scale).toNat) from far_wrap (by omega) (by omega) (by omega) (by omega)]) ?_
  refine xl_endS [1,2,5,8,10,11] [(1,.v (.int .i64 iss)),(2,.v (.int .i64 irs)),(5,.p 0 0),(8,.p 1 0),(10,.p 2 0),(11,.v (.int .i64 (0 * 2 ^ (max 0 o.scale).toNat)))] (by kernel_rfl) ?_
  refine xw_seq ?_
  refine xe_region [true,true,false] (by kernel_rfl) (fun ρ σ => ?_)
  refine xe_tkS [0,1,4,7,8,9] [34,33,32,29,26,25,10] 6 [(34,.v (.agg (optL o).toArray)),(33,.v (.int .i64 (0 * 2 ^ (max 0 o.scale).toNat))),(32,.v (.int .i64 (0 * 2 ^ (max 0 o.scale).toNat))),(29,.v (.int .i64 irs)),(26,.v (.int .i64 iss)),(25,.v (.agg (tupL t).toArray)),(10,.p 2 0)] (fun _ _ h => h) rfl (by kernel_rfl) ?_
  refine xe_all [2] (by kernel_rfl) (by simp) ?_
  refine xs_call 2 24 [.int .i64 iss,.int .i64 1] (some 27) rfl (by kernel_rfl) rfl (by kernel_rfl) (xc_s fun ww hf => sSeqAdd_c iss 1 ww ) ?_
  intro _
  refine xe_op 3 (.agg #[.int .i64 (seqAdd iss 1),.string (⟨#[]⟩ : ByteArray),.int .i64 0,.bool false,.bool false,.bool false]) _ rfl (by kernel_rfl) (by kernel_rfl) (by kernel_rfl) (fun _ _ h => h) (by kernel_rfl) rfl (fun _ _ ww hA => act_build [(0,.int .i64 (seqAdd iss 1))] hA rfl (by kernel_rfl) (by kernel_rfl) ww) rfl ?_
  refine xe_all [5] (by kernel_rfl) (by simp) ?_
  refine xs_call 5 24 [.int .i64 irs,.int .i64 1] (some 30) rfl (by kernel_rfl) rfl (by kernel_rfl) (xc_s fun ww hf => sSeqAdd_c irs 1 ww ) ?_
  intro _
  refine xe_all [6] (by kernel_rfl) (by simp) ?_
  refine xs_call 6 57 [.int .i64 (seqAdd irs 1)] (some 31) rfl (by kernel_rfl) rfl (by kernel_rfl) (xc_r fun ww hw hf => ysReceiverNew_c (seqAdd irs 1) ww   w.heap.size hw) ?_
  rintro ⟨v6a,v6c⟩
  refine xe_op 10 (.agg #[.int .i64 t.ip,.int .i64 t.port,.int .i64 t.my,.int .i64 1,.int .i64 (seqAdd iss 1),.string (⟨#[]⟩ : ByteArray),.int .i64 0,.bool false,.bool false,.bool false,.int .i64 ((receiverNew (seqAdd irs 1)).next),.string ((receiverNew (seqAdd irs 1)).data),.slice v6a ((receiverNew (seqAdd irs 1)).held.length) v6c,.int .i64 ((receiverNew (seqAdd irs 1)).fin),.bool ((receiverNew (seqAdd irs 1)).done),.int .i64 (0 * 2 ^ (max 0 o.scale).toNat),.int .i64 (0 * 2 ^ (max 0 o.scale).toNat),.int .i64 o.mss,.int .i64 o.scale,.bool o.sack,.bool o.stamp,.int .i64 o.val,.int .i64 o.echo,.int .i64 0,.int .i64 0]) _ rfl (by kernel_rfl) (by kernel_rfl) (by kernel_rfl) (fun _ _ h => h) (by kernel_rfl) rfl (fun _ _ ww hA => act_build [(0,.agg (tupL t).toArray),(1,.int .i64 1),(2,.agg #[.int .i64 (seqAdd iss 1),.string (⟨#[]⟩ : ByteArray),.int .i64 0,.bool false,.bool false,.bool false]),(3,.agg (rcvL (receiverNew (seqAdd irs 1)) (.slice v6a ((receiverNew (seqAdd irs 1)).held.length) v6c)).toArray),(4,.int .i64 (0 * 2 ^ (max 0 o.scale).toNat)),(5,.int .i64 (0 * 2 ^ (max 0 o.scale).toNat)),(6,.agg (optL o).toArray)] hA rfl (by kernel_rfl) (by kernel_rfl) ww) rfl ?_
  refine xe_all [11] (by kernel_rfl) (by simp) ?_
  refine xs_store 11 2 0 [.int .i64 t.ip,.int .i64 t.port,.int .i64 t.my,.int .i64 1,.int .i64 (seqAdd iss 1),.string (⟨#[]⟩ : ByteArray),.int .i64 0,.bool false,.bool false,.bool false,.int .i64 ((receiverNew (seqAdd irs 1)).next),.string ((receiverNew (seqAdd irs 1)).data),.slice v6a ((receiverNew (seqAdd irs 1)).held.length) v6c,.int .i64 ((receiverNew (seqAdd irs 1)).fin),.bool ((receiverNew (seqAdd irs 1)).done),.int .i64 (0 * 2 ^ (max 0 o.scale).toNat),.int .i64 (0 * 2 ^ (max 0 o.scale).toNat),.int .i64 o.mss,.int .i64 o.scale,.bool o.sack,.bool o.stamp,.int .i64 o.val,.int .i64 o.echo,.int .i64 0,.int .i64 0] _ rfl (by kernel_rfl) (by kernel_rfl) (by kernel_rfl) (by kernel_rfl) (by first | exact .inr rfl | exact .inl rfl) (by kernel_rfl) rfl ?_
  refine xe_done (by kernel_rfl) ?_
  refine xw_ret ?_
  have hmod : connNew t iss irs o window = (⟨t,1,⟨seqAdd iss 1,(⟨#[]⟩ : ByteArray),0,false,false,false⟩,(receiverNew (seqAdd irs 1)),0 * 2 ^ (max 0 o.scale).toNat,0 * 2 ^ (max 0 o.scale).toNat,o,0,0⟩) := by first | rfl | (simp [connNew,farW,receiverNew, *]; done) | grind [connNew,farW,receiverNew]
  exact ⟨[.agg #[.int .i64 t.ip,.int .i64 t.port,.int .i64 t.my,.int .i64 1,.int .i64 (seqAdd iss 1),.string (⟨#[]⟩ : ByteArray),.int .i64 0,.bool false,.bool false,.bool false,.int .i64 ((receiverNew (seqAdd irs 1)).next),.string ((receiverNew (seqAdd irs 1)).data),.slice v6a ((receiverNew (seqAdd irs 1)).held.length) v6c,.int .i64 ((receiverNew (seqAdd irs 1)).fin),.bool ((receiverNew (seqAdd irs 1)).done),.int .i64 (0 * 2 ^ (max 0 o.scale).toNat),.int .i64 (0 * 2 ^ (max 0 o.scale).toNat),.int .i64 o.mss,.int .i64 o.scale,.bool o.sack,.bool o.stamp,.int .i64 o.val,.int .i64 o.echo,.int .i64 0,.int .i64 0]],by kernel_rfl,fun w' hb hf ha => by rw [hmod]; exact xr_one ((v6a,v6c)) rfl rfl (ownF_ownF (hf (ownF w.heap.size (.slice v6a ((receiverNew (seqAdd irs 1)).held.length) v6c) 2 ((receiverNew (seqAdd irs 1)).held.map pceCells)) (by simp)) hB) (fun b hb => ownF_lo (hf (ownF w.heap.size (.slice v6a ((receiverNew (seqAdd irs 1)).held.length) v6c) 2 ((receiverNew (seqAdd irs 1)).held.map pceCells)) (by simp)) hb) hb⟩
  have h5n := not_f h5
  have h5nw := wordOk16_bd (by simpa using h5n)
  obtain ⟨h5nw0,h5nw1⟩ := h5nw
  refine xw_skip ?_
  refine xw_seq ?_
  refine xw_region ?_
  refine xl_callS 3 [1,2,5,8,10,19,21] [(1,.v (.int .i64 iss)),(2,.v (.int .i64 irs)),(5,.p 0 0),(8,.p 1 0),(10,.p 2 0),(19,.v (.int .i64 window)),(21,.v (.int .i64 o.scale))] 56 [.int .i64 0,.int .i64 o.scale] (some 22) (by kernel_rfl) rfl (by kernel_rfl) rfl (by kernel_rfl) (xc_s fun ww hf => l1Max_c 0 o.scale ww ) ?_
  intro _
  refine xl_opS 1 [1,2,5,8,10,19,23] [(1,.v (.int .i64 iss)),(2,.v (.int .i64 irs)),(5,.p 0 0),(8,.p 1 0),(10,.p 2 0),(19,.v (.int .i64 window)),(23,.v (.int .u64 (IntKind.u64.wrap (max 0 o.scale))))] (.int .i64 (IntKind.i64.wrap (window * 2 ^ (IntKind.u64.wrap (max 0 o.scale)).toNat))) (by kernel_rfl) rfl (by kernel_rfl) rfl (fun _ _ _ ww hr => act_bin hr.1 rfl (by kernel_rfl) (by kernel_rfl) (shl_run (k' := .u64) (by have e : ((IntKind.i64.bits : Nat) : Int) = 64 := rfl; (try rw [u64_id (by omega) (by omega)]); omega) (by have e : ((IntKind.i64.bits : Nat) : Int) = 64 := rfl; (try rw [u64_id (by omega) (by omega)]); omega) ww)) ?_
  refine xl_runS 1 [1,2,5,8,10,11] [(1,.v (.int .i64 iss)),(2,.v (.int .i64 irs)),(5,.p 0 0),(8,.p 1 0),(10,.p 2 0),(11,.v (.int .i64 (IntKind.i64.wrap (window * 2 ^ (IntKind.u64.wrap (max 0 o.scale)).toNat))))] (by kernel_rfl) ?_
  refine xl_eqS (t' := [(1,.v (.int .i64 iss)),(2,.v (.int .i64 irs)),(5,.p 0 0),(8,.p 1 0),(10,.p 2 0),(11,.v (.int .i64 (window * 2 ^ (max 0 o.scale).toNat)))]) (by rw [show (IntKind.u64.wrap (max 0 o.scale)) = (max 0 o.scale) from u64_id (by omega) (by omega),show (IntKind.i64.wrap (window * 2 ^ (max 0 o.scale).toNat)) = (window * 2 ^ (max 0 o.scale).toNat) from far_wrap (by omega) (by omega) (by omega) (by omega)]) ?_
  refine xl_endS [1,2,5,8,10,11] [(1,.v (.int .i64 iss)),(2,.v (.int .i64 irs)),(5,.p 0 0),(8,.p 1 0),(10,.p 2 0),(11,.v (.int .i64 (window * 2 ^ (max 0 o.scale).toNat)))] (by kernel_rfl) ?_
  refine xw_seq ?_
  refine xe_region [true,true,false] (by kernel_rfl) (fun ρ σ => ?_)
  refine xe_tkS [0,1,4,7,8,9] [34,33,32,29,26,25,10] 6 [(34,.v (.agg (optL o).toArray)),(33,.v (.int .i64 (window * 2 ^ (max 0 o.scale).toNat))),(32,.v (.int .i64 (window * 2 ^ (max 0 o.scale).toNat))),(29,.v (.int .i64 irs)),(26,.v (.int .i64 iss)),(25,.v (.agg (tupL t).toArray)),(10,.p 2 0)] (fun _ _ h => h) rfl (by kernel_rfl) ?_
  refine xe_all [2] (by kernel_rfl) (by simp) ?_
  refine xs_call 2 24 [.int .i64 iss,.int .i64 1] (some 27) rfl (by kernel_rfl) rfl (by kernel_rfl) (xc_s fun ww hf => sSeqAdd_c iss 1 ww ) ?_
  intro _
  refine xe_op 3 (.agg #[.int .i64 (seqAdd iss 1),.string (⟨#[]⟩ : ByteArray),.int .i64 0,.bool false,.bool false,.bool false]) _ rfl (by kernel_rfl) (by kernel_rfl) (by kernel_rfl) (fun _ _ h => h) (by kernel_rfl) rfl (fun _ _ ww hA => act_build [(0,.int .i64 (seqAdd iss 1))] hA rfl (by kernel_rfl) (by kernel_rfl) ww) rfl ?_
  refine xe_all [5] (by kernel_rfl) (by simp) ?_
  refine xs_call 5 24 [.int .i64 irs,.int .i64 1] (some 30) rfl (by kernel_rfl) rfl (by kernel_rfl) (xc_s fun ww hf => sSeqAdd_c irs 1 ww ) ?_
  intro _
  refine xe_all [6] (by kernel_rfl) (by simp) ?_
  refine xs_call 6 57 [.int .i64 (seqAdd irs 1)] (some 31) rfl (by kernel_rfl) rfl (by kernel_rfl) (xc_r fun ww hw hf => ysReceiverNew_c (seqAdd irs 1) ww   w.heap.size hw) ?_
  rintro ⟨v7a,v7c⟩
  refine xe_op 10 (.agg #[.int .i64 t.ip,.int .i64 t.port,.int .i64 t.my,.int .i64 1,.int .i64 (seqAdd iss 1),.string (⟨#[]⟩ : ByteArray),.int .i64 0,.bool false,.bool false,.bool false,.int .i64 ((receiverNew (seqAdd irs 1)).next),.string ((receiverNew (seqAdd irs 1)).data),.slice v7a ((receiverNew (seqAdd irs 1)).held.length) v7c,.int .i64 ((receiverNew (seqAdd irs 1)).fin),.bool ((receiverNew (seqAdd irs 1)).done),.int .i64 (window * 2 ^ (max 0 o.scale).toNat),.int .i64 (window * 2 ^ (max 0 o.scale).toNat),.int .i64 o.mss,.int .i64 o.scale,.bool o.sack,.bool o.stamp,.int .i64 o.val,.int .i64 o.echo,.int .i64 0,.int .i64 0]) _ rfl (by kernel_rfl) (by kernel_rfl) (by kernel_rfl) (fun _ _ h => h) (by kernel_rfl) rfl (fun _ _ ww hA => act_build [(0,.agg (tupL t).toArray),(1,.int .i64 1),(2,.agg #[.int .i64 (seqAdd iss 1),.string (⟨#[]⟩ : ByteArray),.int .i64 0,.bool false,.bool false,.bool false]),(3,.agg (rcvL (receiverNew (seqAdd irs 1)) (.slice v7a ((receiverNew (seqAdd irs 1)).held.length) v7c)).toArray),(4,.int .i64 (window * 2 ^ (max 0 o.scale).toNat)),(5,.int .i64 (window * 2 ^ (max 0 o.scale).toNat)),(6,.agg (optL o).toArray)] hA rfl (by kernel_rfl) (by kernel_rfl) ww) rfl ?_
  refine xe_all [11] (by kernel_rfl) (by simp) ?_
  refine xs_store 11 2 0 [.int .i64 t.ip,.int .i64 t.port,.int .i64 t.my,.int .i64 1,.int .i64 (seqAdd iss 1),.string (⟨#[]⟩ : ByteArray),.int .i64 0,.bool false,.bool false,.bool false,.int .i64 ((receiverNew (seqAdd irs 1)).next),.string ((receiverNew (seqAdd irs 1)).data),.slice v7a ((receiverNew (seqAdd irs 1)).held.length) v7c,.int .i64 ((receiverNew (seqAdd irs 1)).fin),.bool ((receiverNew (seqAdd irs 1)).done),.int .i64 (window * 2 ^ (max 0 o.scale).toNat),.int .i64 (window * 2 ^ (max 0 o.scale).toNat),.int .i64 o.mss,.int .i64 o.scale,.bool o.sack,.bool o.stamp,.int .i64 o.val,.int .i64 o.echo,.int .i64 0,.int .i64 0] _ rfl (by kernel_rfl) (by kernel_rfl) (by kernel_rfl) (by kernel_rfl) (by first | exact .inr rfl | exact .inl rfl) (by kernel_rfl) rfl ?_
  refine xe_done (by kernel_rfl) ?_
  refine xw_ret ?_
  have hmod : connNew t iss irs o window = (⟨t,1,⟨seqAdd iss 1,(⟨#[]⟩ : ByteArray),0,false,false,false⟩,(receiverNew (seqAdd irs 1)),window * 2 ^ (max 0 o.scale).toNat,window * 2 ^ (max 0 o.scale).toNat,o,0,0⟩) := by first | rfl | (simp [connNew,farW,receiverNew, *]; done) | grind [connNew,farW,receiverNew]
  exact ⟨[.agg #[.int .i64 t.ip,.int .i64 t.port,.int .i64 t.my,.int .i64 1,.int .i64 (seqAdd iss 1),.string (⟨#[]⟩ : ByteArray),.int .i64 0,.bool false,.bool false,.bool false,.int .i64 ((receiverNew (seqAdd irs 1)).next),.string ((receiverNew (seqAdd irs 1)).data),.slice v7a ((receiverNew (seqAdd irs 1)).held.length) v7c,.int .i64 ((receiverNew (seqAdd irs 1)).fin),.bool ((receiverNew (seqAdd irs 1)).done),.int .i64 (window * 2 ^ (max 0 o.scale).toNat),.int .i64 (window * 2 ^ (max 0 o.scale).toNat),.int .i64 o.mss,.int .i64 o.scale,.bool o.sack,.bool o.stamp,.int .i64 o.val,.int .i64 o.echo,.int .i64 0,.int .i64 0]],by kernel_rfl,fun w' hb hf ha => by rw [hmod]; exact xr_one ((v7a,v7c)) rfl rfl (ownF_ownF (hf (ownF w.heap.size (.slice v7a ((receiverNew (seqAdd irs 1)).held.length) v7c) 2 ((receiverNew (seqAdd irs 1)).held.map pceCells)) (by simp)) hB) (fun b hb => ownF_lo (hf (ownF w.heap.size (.slice v7a ((receiverNew (seqAdd irs 1)).held.length) v7c) 2 ((receiverNew (seqAdd irs 1)).held.map pceCells)) (by simp)) hb) hb⟩
set_option maxHeartbeats 1000000 in
theorem yiReceiverNew_c (n : Int) (w : World)  (B : Nat) (hB : B ≤ w.heap.size) : Calls Try.prog 54 #[.int .i64 n] w fun e w' => XRs w w' e (α := Option Addr × Nat) (fun y => .agg (rcvL (receiverNew n) (.slice y.1 ((receiverNew n).held.length) y.2)).toArray) (fun y => [ownF B (.slice y.1 ((receiverNew n).held.length) y.2) 2 ((receiverNew n).held.map pceCells)]) := by
  refine x_callsA (args := [.int .i64 n]) (fn := Try.f54) [] Try.func54 rfl Try.ntmps54 rfl (by simp) ?_
  refine xw_seq ?_
  refine xw_region ?_
  refine xl_end [0,2] ⟨[(0,.v (.int .i64 n)),(2,.p 0 0)],[⟨43,rcvZ⟩],[],[]⟩ (by kernel_rfl) ?_
  refine xw_seq ?_
  refine xw_region ?_
  refine xl_callS 1 [2,3] [(2,.p 0 0),(3,.v (.int .i64 n))] 46 [.int .i64 n,.int .i64 0] (some 4) (by kernel_rfl) rfl (by kernel_rfl) rfl (by kernel_rfl) (xc_s fun ww hf => iSeqAdd_c n 0 ww ) ?_
  intro _
  refine xl_opS 0 [2,4] [(2,.p 0 0),(4,.v (.int .i64 (seqAdd n 0)))] (.agg #[.int .i64 (seqAdd n 0),.string (⟨#[]⟩ : ByteArray),.slice none 0 0,.int .i64 (-1),.bool false]) (by kernel_rfl) rfl (by kernel_rfl) rfl (fun _ _ _ ww hr => act_build [(0,.int .i64 (seqAdd n 0)),(3,.int .i64 (-1))] hr.1 rfl (by kernel_rfl) (by kernel_rfl) ww) ?_
  refine xl_end [2] ⟨[(2,.p 0 0)],[⟨43,[.int .i64 (seqAdd n 0),.string (⟨#[]⟩ : ByteArray),.slice none 0 0,.int .i64 (-1),.bool false]⟩],[],[]⟩ (by kernel_rfl) ?_
  refine xw_ret ?_
  have hmod : receiverNew n = (⟨seqAdd n 0,(⟨#[]⟩ : ByteArray),[],(-1),false⟩) := by first | rfl | (simp [receiverNew,seqAdd]; done)
  exact ⟨[.agg #[.int .i64 (seqAdd n 0),.string (⟨#[]⟩ : ByteArray),.slice none 0 0,.int .i64 (-1),.bool false]],by kernel_rfl,fun w' hb hf ha => by rw [hmod]; exact xr_one ((none,0)) rfl rfl (.inl ⟨rfl,_,rfl⟩) (fun b hb => (hb.1 rfl).elim) hb⟩
set_option maxHeartbeats 1000000 in
theorem yiConnNew_c (t : Tup) (iss : Int) (irs : Int) (o : Opt) (window : Int) (w : World)  (B : Nat) (hB : B ≤ w.heap.size) : Calls Try.prog 18 #[.agg (tupL t).toArray, .int .i64 iss, .int .i64 irs, .agg (optL o).toArray, .int .i64 window] w fun e w' => XRs w w' e (α := Option Addr × Nat) (fun y => .agg (conL (connNew t iss irs o window) (.slice y.1 ((connNew t iss irs o window).r.held.length) y.2)).toArray) (fun y => [ownF B (.slice y.1 ((connNew t iss irs o window).r.held.length) y.2) 2 ((connNew t iss irs o window).r.held.map pceCells)]) := by
  refine x_callsA (args := [.agg (tupL t).toArray,.int .i64 iss,.int .i64 irs,.agg (optL o).toArray,.int .i64 window]) (fn := Try.f18) [] Try.func18 rfl Try.ntmps18 rfl (by simp) ?_
  refine xw_seq ?_
  refine xw_region ?_
  refine xl_end [1,2,4,5,8,10] ⟨[(1,.v (.int .i64 iss)),(2,.v (.int .i64 irs)),(4,.v (.int .i64 window)),(5,.p 0 0),(8,.p 1 0),(10,.p 2 0)],[⟨36,tupL t⟩,⟨25,optL o⟩,⟨45,conZ⟩],[],[]⟩ (by kernel_rfl) ?_
  refine xw_seq ?_
  refine xw_seq ?_
  refine xw_region ?_
  refine xl_callS 1 [1,2,4,5,8,10,12] [(1,.v (.int .i64 iss)),(2,.v (.int .i64 irs)),(4,.v (.int .i64 window)),(5,.p 0 0),(8,.p 1 0),(10,.p 2 0),(12,.v (.agg (optL o).toArray))] 12 [.agg (optL o).toArray] (some 13) (by kernel_rfl) rfl (by kernel_rfl) rfl (by kernel_rfl) (xc_b fun ww hf => iOptionsOk_c o.mss o.scale o.sack o.stamp o.val o.echo ww ) ?_
  intro _
  refine xl_endS [1,2,4,5,8,10,14] [(1,.v (.int .i64 iss)),(2,.v (.int .i64 irs)),(4,.v (.int .i64 window)),(5,.p 0 0),(8,.p 1 0),(10,.p 2 0),(14,.v (.bool (!(optionsOk o))))] (by kernel_rfl) ?_
  refine xw_cond (b := !(optionsOk o)) (by kernel_rfl) (fun h1 => ?_) (fun h1 => ?_)
  have h1n := not_t h1
  refine xw_region ?_
  refine xl_callS 0 [1,2,4,5,8,10] [(1,.v (.int .i64 iss)),(2,.v (.int .i64 irs)),(4,.v (.int .i64 window)),(5,.p 0 0),(8,.p 1 0),(10,.p 2 0)] 39 [] (some 15) (by kernel_rfl) rfl (by kernel_rfl) rfl (by kernel_rfl) (xc_b fun ww hf => iNoOptions_c  ww ) ?_
  intro _
  refine xl_end [1,2,4,5,8,10] ⟨[(1,.v (.int .i64 iss)),(2,.v (.int .i64 irs)),(4,.v (.int .i64 window)),(5,.p 0 0),(8,.p 1 0),(10,.p 2 0)],[⟨36,tupL t⟩,⟨25,[.int .i64 0,.int .i64 (-1),.bool false,.bool false,.int .i64 0,.int .i64 0]⟩,⟨45,conZ⟩],[],[]⟩ (by kernel_rfl) ?_
  refine xw_seq ?_
  refine xw_seq ?_
  refine xw_region ?_
  refine xl_callS 1 [1,2,4,5,8,10,16] [(1,.v (.int .i64 iss)),(2,.v (.int .i64 irs)),(4,.v (.int .i64 window)),(5,.p 0 0),(8,.p 1 0),(10,.p 2 0),(16,.v (.int .i64 window))] 43 [.int .i64 window,.int .i64 16] (some 17) (by kernel_rfl) rfl (by kernel_rfl) rfl (by kernel_rfl) (xc_s fun ww hf => iWordOk16_c window ww) ?_
  intro _
  refine xl_endS [1,2,4,5,8,10,18] [(1,.v (.int .i64 iss)),(2,.v (.int .i64 irs)),(4,.v (.int .i64 window)),(5,.p 0 0),(8,.p 1 0),(10,.p 2 0),(18,.v (.bool (!(wordOk window 16))))] (by kernel_rfl) ?_
  refine xw_cond (b := !(wordOk window 16)) (by kernel_rfl) (fun h2 => ?_) (fun h2 => ?_)
  have h2n := not_t h2
  refine xw_region ?_
  refine xl_endS [1,2,4,5,8,10] [(1,.v (.int .i64 iss)),(2,.v (.int .i64 irs)),(4,.v (.int .i64 0)),(5,.p 0 0),(8,.p 1 0),(10,.p 2 0)] (by kernel_rfl) ?_
  refine xw_seq ?_
  refine xw_region ?_
  refine xl_callS 2 [1,2,5,8,10,19,20] [(1,.v (.int .i64 iss)),(2,.v (.int .i64 irs)),(5,.p 0 0),(8,.p 1 0),(10,.p 2 0),(19,.v (.int .i64 0)),(20,.v (.agg #[.int .i64 0,.int .i64 (-1),.bool false,.bool false,.int .i64 0,.int .i64 0]))] 53 [.int .i64 0,.agg #[.int .i64 0,.int .i64 (-1),.bool false,.bool false,.int .i64 0,.int .i64 0]] (some 21) (by kernel_rfl) rfl (by kernel_rfl) rfl (by kernel_rfl) (xc_b fun ww hf => yiscaled_c 0 (⟨0,(-1),false,false,0,0⟩) ww  (by omega) (by (try dsimp only); omega)) ?_
  intro _
  refine xl_endS [1,2,5,8,10,11] [(1,.v (.int .i64 iss)),(2,.v (.int .i64 irs)),(5,.p 0 0),(8,.p 1 0),(10,.p 2 0),(11,.v (.int .i64 (farW 0 (⟨0,(-1),false,false,0,0⟩))))] (by kernel_rfl) ?_
  refine xw_seq ?_
  refine xe_region [true,true,false] (by kernel_rfl) (fun ρ σ => ?_)
  refine xe_tkS [0,1,4,7,8,9] [31,30,29,26,23,22,10] 6 [(31,.v (.agg #[.int .i64 0,.int .i64 (-1),.bool false,.bool false,.int .i64 0,.int .i64 0])),(30,.v (.int .i64 (farW 0 (⟨0,(-1),false,false,0,0⟩)))),(29,.v (.int .i64 (farW 0 (⟨0,(-1),false,false,0,0⟩)))),(26,.v (.int .i64 irs)),(23,.v (.int .i64 iss)),(22,.v (.agg (tupL t).toArray)),(10,.p 2 0)] (fun _ _ h => h) rfl (by kernel_rfl) ?_
  refine xe_all [2] (by kernel_rfl) (by simp) ?_
  refine xs_call 2 46 [.int .i64 iss,.int .i64 1] (some 24) rfl (by kernel_rfl) rfl (by kernel_rfl) (xc_s fun ww hf => iSeqAdd_c iss 1 ww ) ?_
  intro _
  refine xe_op 3 (.agg #[.int .i64 (seqAdd iss 1),.string (⟨#[]⟩ : ByteArray),.int .i64 0,.bool false,.bool false,.bool false]) _ rfl (by kernel_rfl) (by kernel_rfl) (by kernel_rfl) (fun _ _ h => h) (by kernel_rfl) rfl (fun _ _ ww hA => act_build [(0,.int .i64 (seqAdd iss 1))] hA rfl (by kernel_rfl) (by kernel_rfl) ww) rfl ?_
  refine xe_all [5] (by kernel_rfl) (by simp) ?_
  refine xs_call 5 46 [.int .i64 irs,.int .i64 1] (some 27) rfl (by kernel_rfl) rfl (by kernel_rfl) (xc_s fun ww hf => iSeqAdd_c irs 1 ww ) ?_
  intro _
  refine xe_all [6] (by kernel_rfl) (by simp) ?_
  refine xs_call 6 54 [.int .i64 (seqAdd irs 1)] (some 28) rfl (by kernel_rfl) rfl (by kernel_rfl) (xc_r fun ww hw hf => yiReceiverNew_c (seqAdd irs 1) ww   w.heap.size hw) ?_
  rintro ⟨v3a,v3c⟩
  refine xe_op 10 (.agg #[.int .i64 t.ip,.int .i64 t.port,.int .i64 t.my,.int .i64 1,.int .i64 (seqAdd iss 1),.string (⟨#[]⟩ : ByteArray),.int .i64 0,.bool false,.bool false,.bool false,.int .i64 ((receiverNew (seqAdd irs 1)).next),.string ((receiverNew (seqAdd irs 1)).data),.slice v3a ((receiverNew (seqAdd irs 1)).held.length) v3c,.int .i64 ((receiverNew (seqAdd irs 1)).fin),.bool ((receiverNew (seqAdd irs 1)).done),.int .i64 (farW 0 (⟨0,(-1),false,false,0,0⟩)),.int .i64 (farW 0 (⟨0,(-1),false,false,0,0⟩)),.int .i64 0,.int .i64 (-1),.bool false,.bool false,.int .i64 0,.int .i64 0,.int .i64 0,.int .i64 0]) _ rfl (by kernel_rfl) (by kernel_rfl) (by kernel_rfl) (fun _ _ h => h) (by kernel_rfl) rfl (fun _ _ ww hA => act_build [(0,.agg (tupL t).toArray),(1,.int .i64 1),(2,.agg #[.int .i64 (seqAdd iss 1),.string (⟨#[]⟩ : ByteArray),.int .i64 0,.bool false,.bool false,.bool false]),(3,.agg (rcvL (receiverNew (seqAdd irs 1)) (.slice v3a ((receiverNew (seqAdd irs 1)).held.length) v3c)).toArray),(4,.int .i64 (farW 0 (⟨0,(-1),false,false,0,0⟩))),(5,.int .i64 (farW 0 (⟨0,(-1),false,false,0,0⟩))),(6,.agg #[.int .i64 0,.int .i64 (-1),.bool false,.bool false,.int .i64 0,.int .i64 0])] hA rfl (by kernel_rfl) (by kernel_rfl) ww) rfl ?_
  refine xe_all [11] (by kernel_rfl) (by simp) ?_
  refine xs_store 11 2 0 [.int .i64 t.ip,.int .i64 t.port,.int .i64 t.my,.int .i64 1,.int .i64 (seqAdd iss 1),.string (⟨#[]⟩ : ByteArray),.int .i64 0,.bool false,.bool false,.bool false,.int .i64 ((receiverNew (seqAdd irs 1)).next),.string ((receiverNew (seqAdd irs 1)).data),.slice v3a ((receiverNew (seqAdd irs 1)).held.length) v3c,.int .i64 ((receiverNew (seqAdd irs 1)).fin),.bool ((receiverNew (seqAdd irs 1)).done),.int .i64 (farW 0 (⟨0,(-1),false,false,0,0⟩)),.int .i64 (farW 0 (⟨0,(-1),false,false,0,0⟩)),.int .i64 0,.int .i64 (-1),.bool false,.bool false,.int .i64 0,.int .i64 0,.int .i64 0,.int .i64 0] _ rfl (by kernel_rfl) (by kernel_rfl) (by kernel_rfl) (by kernel_rfl) (by first | exact .inr rfl | exact .inl rfl) (by kernel_rfl) rfl ?_
  refine xe_done (by kernel_rfl) ?_
  refine xw_ret ?_
  have hmod : connNew t iss irs o window = (⟨t,1,⟨seqAdd iss 1,(⟨#[]⟩ : ByteArray),0,false,false,false⟩,(receiverNew (seqAdd irs 1)),(farW 0 (⟨0,(-1),false,false,0,0⟩)),(farW 0 (⟨0,(-1),false,false,0,0⟩)),⟨0,(-1),false,false,0,0⟩,0,0⟩) := by first | rfl | (simp [connNew,farW,receiverNew, *]; done) | grind [connNew,farW,receiverNew]
  exact ⟨[.agg #[.int .i64 t.ip,.int .i64 t.port,.int .i64 t.my,.int .i64 1,.int .i64 (seqAdd iss 1),.string (⟨#[]⟩ : ByteArray),.int .i64 0,.bool false,.bool false,.bool false,.int .i64 ((receiverNew (seqAdd irs 1)).next),.string ((receiverNew (seqAdd irs 1)).data),.slice v3a ((receiverNew (seqAdd irs 1)).held.length) v3c,.int .i64 ((receiverNew (seqAdd irs 1)).fin),.bool ((receiverNew (seqAdd irs 1)).done),.int .i64 (farW 0 (⟨0,(-1),false,false,0,0⟩)),.int .i64 (farW 0 (⟨0,(-1),false,false,0,0⟩)),.int .i64 0,.int .i64 (-1),.bool false,.bool false,.int .i64 0,.int .i64 0,.int .i64 0,.int .i64 0]],by kernel_rfl,fun w' hb hf ha => by rw [hmod]; exact xr_one ((v3a,v3c)) rfl rfl (ownF_ownF (hf (ownF w.heap.size (.slice v3a ((receiverNew (seqAdd irs 1)).held.length) v3c) 2 ((receiverNew (seqAdd irs 1)).held.map pceCells)) (by simp)) hB) (fun b hb => ownF_lo (hf (ownF w.heap.size (.slice v3a ((receiverNew (seqAdd irs 1)).held.length) v3c) 2 ((receiverNew (seqAdd irs 1)).held.map pceCells)) (by simp)) hb) hb⟩
  have h2n := not_f h2
  have h2nw := wordOk16_bd (by simpa using h2n)
  obtain ⟨h2nw0,h2nw1⟩ := h2nw
  refine xw_skip ?_
  refine xw_seq ?_
  refine xw_region ?_
  refine xl_callS 2 [1,2,5,8,10,19,20] [(1,.v (.int .i64 iss)),(2,.v (.int .i64 irs)),(5,.p 0 0),(8,.p 1 0),(10,.p 2 0),(19,.v (.int .i64 window)),(20,.v (.agg #[.int .i64 0,.int .i64 (-1),.bool false,.bool false,.int .i64 0,.int .i64 0]))] 53 [.int .i64 window,.agg #[.int .i64 0,.int .i64 (-1),.bool false,.bool false,.int .i64 0,.int .i64 0]] (some 21) (by kernel_rfl) rfl (by kernel_rfl) rfl (by kernel_rfl) (xc_b fun ww hf => yiscaled_c window (⟨0,(-1),false,false,0,0⟩) ww  (by omega) (by (try dsimp only); omega)) ?_
  intro _
  refine xl_endS [1,2,5,8,10,11] [(1,.v (.int .i64 iss)),(2,.v (.int .i64 irs)),(5,.p 0 0),(8,.p 1 0),(10,.p 2 0),(11,.v (.int .i64 (farW window (⟨0,(-1),false,false,0,0⟩))))] (by kernel_rfl) ?_
  refine xw_seq ?_
  refine xe_region [true,true,false] (by kernel_rfl) (fun ρ σ => ?_)
  refine xe_tkS [0,1,4,7,8,9] [31,30,29,26,23,22,10] 6 [(31,.v (.agg #[.int .i64 0,.int .i64 (-1),.bool false,.bool false,.int .i64 0,.int .i64 0])),(30,.v (.int .i64 (farW window (⟨0,(-1),false,false,0,0⟩)))),(29,.v (.int .i64 (farW window (⟨0,(-1),false,false,0,0⟩)))),(26,.v (.int .i64 irs)),(23,.v (.int .i64 iss)),(22,.v (.agg (tupL t).toArray)),(10,.p 2 0)] (fun _ _ h => h) rfl (by kernel_rfl) ?_
  refine xe_all [2] (by kernel_rfl) (by simp) ?_
  refine xs_call 2 46 [.int .i64 iss,.int .i64 1] (some 24) rfl (by kernel_rfl) rfl (by kernel_rfl) (xc_s fun ww hf => iSeqAdd_c iss 1 ww ) ?_
  intro _
  refine xe_op 3 (.agg #[.int .i64 (seqAdd iss 1),.string (⟨#[]⟩ : ByteArray),.int .i64 0,.bool false,.bool false,.bool false]) _ rfl (by kernel_rfl) (by kernel_rfl) (by kernel_rfl) (fun _ _ h => h) (by kernel_rfl) rfl (fun _ _ ww hA => act_build [(0,.int .i64 (seqAdd iss 1))] hA rfl (by kernel_rfl) (by kernel_rfl) ww) rfl ?_
  refine xe_all [5] (by kernel_rfl) (by simp) ?_
  refine xs_call 5 46 [.int .i64 irs,.int .i64 1] (some 27) rfl (by kernel_rfl) rfl (by kernel_rfl) (xc_s fun ww hf => iSeqAdd_c irs 1 ww ) ?_
  intro _
  refine xe_all [6] (by kernel_rfl) (by simp) ?_
  refine xs_call 6 54 [.int .i64 (seqAdd irs 1)] (some 28) rfl (by kernel_rfl) rfl (by kernel_rfl) (xc_r fun ww hw hf => yiReceiverNew_c (seqAdd irs 1) ww   w.heap.size hw) ?_
  rintro ⟨v4a,v4c⟩
  refine xe_op 10 (.agg #[.int .i64 t.ip,.int .i64 t.port,.int .i64 t.my,.int .i64 1,.int .i64 (seqAdd iss 1),.string (⟨#[]⟩ : ByteArray),.int .i64 0,.bool false,.bool false,.bool false,.int .i64 ((receiverNew (seqAdd irs 1)).next),.string ((receiverNew (seqAdd irs 1)).data),.slice v4a ((receiverNew (seqAdd irs 1)).held.length) v4c,.int .i64 ((receiverNew (seqAdd irs 1)).fin),.bool ((receiverNew (seqAdd irs 1)).done),.int .i64 (farW window (⟨0,(-1),false,false,0,0⟩)),.int .i64 (farW window (⟨0,(-1),false,false,0,0⟩)),.int .i64 0,.int .i64 (-1),.bool false,.bool false,.int .i64 0,.int .i64 0,.int .i64 0,.int .i64 0]) _ rfl (by kernel_rfl) (by kernel_rfl) (by kernel_rfl) (fun _ _ h => h) (by kernel_rfl) rfl (fun _ _ ww hA => act_build [(0,.agg (tupL t).toArray),(1,.int .i64 1),(2,.agg #[.int .i64 (seqAdd iss 1),.string (⟨#[]⟩ : ByteArray),.int .i64 0,.bool false,.bool false,.bool false]),(3,.agg (rcvL (receiverNew (seqAdd irs 1)) (.slice v4a ((receiverNew (seqAdd irs 1)).held.length) v4c)).toArray),(4,.int .i64 (farW window (⟨0,(-1),false,false,0,0⟩))),(5,.int .i64 (farW window (⟨0,(-1),false,false,0,0⟩))),(6,.agg #[.int .i64 0,.int .i64 (-1),.bool false,.bool false,.int .i64 0,.int .i64 0])] hA rfl (by kernel_rfl) (by kernel_rfl) ww) rfl ?_
  refine xe_all [11] (by kernel_rfl) (by simp) ?_
  refine xs_store 11 2 0 [.int .i64 t.ip,.int .i64 t.port,.int .i64 t.my,.int .i64 1,.int .i64 (seqAdd iss 1),.string (⟨#[]⟩ : ByteArray),.int .i64 0,.bool false,.bool false,.bool false,.int .i64 ((receiverNew (seqAdd irs 1)).next),.string ((receiverNew (seqAdd irs 1)).data),.slice v4a ((receiverNew (seqAdd irs 1)).held.length) v4c,.int .i64 ((receiverNew (seqAdd irs 1)).fin),.bool ((receiverNew (seqAdd irs 1)).done),.int .i64 (farW window (⟨0,(-1),false,false,0,0⟩)),.int .i64 (farW window (⟨0,(-1),false,false,0,0⟩)),.int .i64 0,.int .i64 (-1),.bool false,.bool false,.int .i64 0,.int .i64 0,.int .i64 0,.int .i64 0] _ rfl (by kernel_rfl) (by kernel_rfl) (by kernel_rfl) (by kernel_rfl) (by first | exact .inr rfl | exact .inl rfl) (by kernel_rfl) rfl ?_
  refine xe_done (by kernel_rfl) ?_
  refine xw_ret ?_
  have hmod : connNew t iss irs o window = (⟨t,1,⟨seqAdd iss 1,(⟨#[]⟩ : ByteArray),0,false,false,false⟩,(receiverNew (seqAdd irs 1)),(farW window (⟨0,(-1),false,false,0,0⟩)),(farW window (⟨0,(-1),false,false,0,0⟩)),⟨0,(-1),false,false,0,0⟩,0,0⟩) := by first | rfl | (simp [connNew,farW,receiverNew, *]; done) | grind [connNew,farW,receiverNew]
  exact ⟨[.agg #[.int .i64 t.ip,.int .i64 t.port,.int .i64 t.my,.int .i64 1,.int .i64 (seqAdd iss 1),.string (⟨#[]⟩ : ByteArray),.int .i64 0,.bool false,.bool false,.bool false,.int .i64 ((receiverNew (seqAdd irs 1)).next),.string ((receiverNew (seqAdd irs 1)).data),.slice v4a ((receiverNew (seqAdd irs 1)).held.length) v4c,.int .i64 ((receiverNew (seqAdd irs 1)).fin),.bool ((receiverNew (seqAdd irs 1)).done),.int .i64 (farW window (⟨0,(-1),false,false,0,0⟩)),.int .i64 (farW window (⟨0,(-1),false,false,0,0⟩)),.int .i64 0,.int .i64 (-1),.bool false,.bool false,.int .i64 0,.int .i64 0,.int .i64 0,.int .i64 0]],by kernel_rfl,fun w' hb hf ha => by rw [hmod]; exact xr_one ((v4a,v4c)) rfl rfl (ownF_ownF (hf (ownF w.heap.size (.slice v4a ((receiverNew (seqAdd irs 1)).held.length) v4c) 2 ((receiverNew (seqAdd irs 1)).held.map pceCells)) (by simp)) hB) (fun b hb => ownF_lo (hf (ownF w.heap.size (.slice v4a ((receiverNew (seqAdd irs 1)).held.length) v4c) 2 ((receiverNew (seqAdd irs 1)).held.map pceCells)) (by simp)) hb) hb⟩
  have h1n := not_f h1
  have h1nw := optionsOk_bd (by simpa using h1n)
  obtain ⟨h1nw0,h1nw1⟩ := h1nw
  refine xw_skip ?_
  refine xw_seq ?_
  refine xw_seq ?_
  refine xw_region ?_
  refine xl_callS 1 [1,2,4,5,8,10,16] [(1,.v (.int .i64 iss)),(2,.v (.int .i64 irs)),(4,.v (.int .i64 window)),(5,.p 0 0),(8,.p 1 0),(10,.p 2 0),(16,.v (.int .i64 window))] 43 [.int .i64 window,.int .i64 16] (some 17) (by kernel_rfl) rfl (by kernel_rfl) rfl (by kernel_rfl) (xc_s fun ww hf => iWordOk16_c window ww) ?_
  intro _
  refine xl_endS [1,2,4,5,8,10,18] [(1,.v (.int .i64 iss)),(2,.v (.int .i64 irs)),(4,.v (.int .i64 window)),(5,.p 0 0),(8,.p 1 0),(10,.p 2 0),(18,.v (.bool (!(wordOk window 16))))] (by kernel_rfl) ?_
  refine xw_cond (b := !(wordOk window 16)) (by kernel_rfl) (fun h5 => ?_) (fun h5 => ?_)
  have h5n := not_t h5
  refine xw_region ?_
  refine xl_endS [1,2,4,5,8,10] [(1,.v (.int .i64 iss)),(2,.v (.int .i64 irs)),(4,.v (.int .i64 0)),(5,.p 0 0),(8,.p 1 0),(10,.p 2 0)] (by kernel_rfl) ?_
  refine xw_seq ?_
  refine xw_region ?_
  refine xl_callS 2 [1,2,5,8,10,19,20] [(1,.v (.int .i64 iss)),(2,.v (.int .i64 irs)),(5,.p 0 0),(8,.p 1 0),(10,.p 2 0),(19,.v (.int .i64 0)),(20,.v (.agg (optL o).toArray))] 53 [.int .i64 0,.agg (optL o).toArray] (some 21) (by kernel_rfl) rfl (by kernel_rfl) rfl (by kernel_rfl) (xc_b fun ww hf => yiscaled_c 0 o ww  (by omega) (by (try dsimp only); omega)) ?_
  intro _
  refine xl_endS [1,2,5,8,10,11] [(1,.v (.int .i64 iss)),(2,.v (.int .i64 irs)),(5,.p 0 0),(8,.p 1 0),(10,.p 2 0),(11,.v (.int .i64 (farW 0 o)))] (by kernel_rfl) ?_
  refine xw_seq ?_
  refine xe_region [true,true,false] (by kernel_rfl) (fun ρ σ => ?_)
  refine xe_tkS [0,1,4,7,8,9] [31,30,29,26,23,22,10] 6 [(31,.v (.agg (optL o).toArray)),(30,.v (.int .i64 (farW 0 o))),(29,.v (.int .i64 (farW 0 o))),(26,.v (.int .i64 irs)),(23,.v (.int .i64 iss)),(22,.v (.agg (tupL t).toArray)),(10,.p 2 0)] (fun _ _ h => h) rfl (by kernel_rfl) ?_
  refine xe_all [2] (by kernel_rfl) (by simp) ?_
  refine xs_call 2 46 [.int .i64 iss,.int .i64 1] (some 24) rfl (by kernel_rfl) rfl (by kernel_rfl) (xc_s fun ww hf => iSeqAdd_c iss 1 ww ) ?_
  intro _
  refine xe_op 3 (.agg #[.int .i64 (seqAdd iss 1),.string (⟨#[]⟩ : ByteArray),.int .i64 0,.bool false,.bool false,.bool false]) _ rfl (by kernel_rfl) (by kernel_rfl) (by kernel_rfl) (fun _ _ h => h) (by kernel_rfl) rfl (fun _ _ ww hA => act_build [(0,.int .i64 (seqAdd iss 1))] hA rfl (by kernel_rfl) (by kernel_rfl) ww) rfl ?_
  refine xe_all [5] (by kernel_rfl) (by simp) ?_
  refine xs_call 5 46 [.int .i64 irs,.int .i64 1] (some 27) rfl (by kernel_rfl) rfl (by kernel_rfl) (xc_s fun ww hf => iSeqAdd_c irs 1 ww ) ?_
  intro _
  refine xe_all [6] (by kernel_rfl) (by simp) ?_
  refine xs_call 6 54 [.int .i64 (seqAdd irs 1)] (some 28) rfl (by kernel_rfl) rfl (by kernel_rfl) (xc_r fun ww hw hf => yiReceiverNew_c (seqAdd irs 1) ww   w.heap.size hw) ?_
  rintro ⟨v6a,v6c⟩
  refine xe_op 10 (.agg #[.int .i64 t.ip,.int .i64 t.port,.int .i64 t.my,.int .i64 1,.int .i64 (seqAdd iss 1),.string (⟨#[]⟩ : ByteArray),.int .i64 0,.bool false,.bool false,.bool false,.int .i64 ((receiverNew (seqAdd irs 1)).next),.string ((receiverNew (seqAdd irs 1)).data),.slice v6a ((receiverNew (seqAdd irs 1)).held.length) v6c,.int .i64 ((receiverNew (seqAdd irs 1)).fin),.bool ((receiverNew (seqAdd irs 1)).done),.int .i64 (farW 0 o),.int .i64 (farW 0 o),.int .i64 o.mss,.int .i64 o.scale,.bool o.sack,.bool o.stamp,.int .i64 o.val,.int .i64 o.echo,.int .i64 0,.int .i64 0]) _ rfl (by kernel_rfl) (by kernel_rfl) (by kernel_rfl) (fun _ _ h => h) (by kernel_rfl) rfl (fun _ _ ww hA => act_build [(0,.agg (tupL t).toArray),(1,.int .i64 1),(2,.agg #[.int .i64 (seqAdd iss 1),.string (⟨#[]⟩ : ByteArray),.int .i64 0,.bool false,.bool false,.bool false]),(3,.agg (rcvL (receiverNew (seqAdd irs 1)) (.slice v6a ((receiverNew (seqAdd irs 1)).held.length) v6c)).toArray),(4,.int .i64 (farW 0 o)),(5,.int .i64 (farW 0 o)),(6,.agg (optL o).toArray)] hA rfl (by kernel_rfl) (by kernel_rfl) ww) rfl ?_
  refine xe_all [11] (by kernel_rfl) (by simp) ?_
  refine xs_store 11 2 0 [.int .i64 t.ip,.int .i64 t.port,.int .i64 t.my,.int .i64 1,.int .i64 (seqAdd iss 1),.string (⟨#[]⟩ : ByteArray),.int .i64 0,.bool false,.bool false,.bool false,.int .i64 ((receiverNew (seqAdd irs 1)).next),.string ((receiverNew (seqAdd irs 1)).data),.slice v6a ((receiverNew (seqAdd irs 1)).held.length) v6c,.int .i64 ((receiverNew (seqAdd irs 1)).fin),.bool ((receiverNew (seqAdd irs 1)).done),.int .i64 (farW 0 o),.int .i64 (farW 0 o),.int .i64 o.mss,.int .i64 o.scale,.bool o.sack,.bool o.stamp,.int .i64 o.val,.int .i64 o.echo,.int .i64 0,.int .i64 0] _ rfl (by kernel_rfl) (by kernel_rfl) (by kernel_rfl) (by kernel_rfl) (by first | exact .inr rfl | exact .inl rfl) (by kernel_rfl) rfl ?_
  refine xe_done (by kernel_rfl) ?_
  refine xw_ret ?_
  have hmod : connNew t iss irs o window = (⟨t,1,⟨seqAdd iss 1,(⟨#[]⟩ : ByteArray),0,false,false,false⟩,(receiverNew (seqAdd irs 1)),(farW 0 o),(farW 0 o),o,0,0⟩) := by first | rfl | (simp [connNew,farW,receiverNew, *]; done) | grind [connNew,farW,receiverNew]
  exact ⟨[.agg #[.int .i64 t.ip,.int .i64 t.port,.int .i64 t.my,.int .i64 1,.int .i64 (seqAdd iss 1),.string (⟨#[]⟩ : ByteArray),.int .i64 0,.bool false,.bool false,.bool false,.int .i64 ((receiverNew (seqAdd irs 1)).next),.string ((receiverNew (seqAdd irs 1)).data),.slice v6a ((receiverNew (seqAdd irs 1)).held.length) v6c,.int .i64 ((receiverNew (seqAdd irs 1)).fin),.bool ((receiverNew (seqAdd irs 1)).done),.int .i64 (farW 0 o),.int .i64 (farW 0 o),.int .i64 o.mss,.int .i64 o.scale,.bool o.sack,.bool o.stamp,.int .i64 o.val,.int .i64 o.echo,.int .i64 0,.int .i64 0]],by kernel_rfl,fun w' hb hf ha => by rw [hmod]; exact xr_one ((v6a,v6c)) rfl rfl (ownF_ownF (hf (ownF w.heap.size (.slice v6a ((receiverNew (seqAdd irs 1)).held.length) v6c) 2 ((receiverNew (seqAdd irs 1)).held.map pceCells)) (by simp)) hB) (fun b hb => ownF_lo (hf (ownF w.heap.size (.slice v6a ((receiverNew (seqAdd irs 1)).held.length) v6c) 2 ((receiverNew (seqAdd irs 1)).held.map pceCells)) (by simp)) hb) hb⟩
  have h5n := not_f h5
  have h5nw := wordOk16_bd (by simpa using h5n)
  obtain ⟨h5nw0,h5nw1⟩ := h5nw
  refine xw_skip ?_
  refine xw_seq ?_
  refine xw_region ?_
  refine xl_callS 2 [1,2,5,8,10,19,20] [(1,.v (.int .i64 iss)),(2,.v (.int .i64 irs)),(5,.p 0 0),(8,.p 1 0),(10,.p 2 0),(19,.v (.int .i64 window)),(20,.v (.agg (optL o).toArray))] 53 [.int .i64 window,.agg (optL o).toArray] (some 21) (by kernel_rfl) rfl (by kernel_rfl) rfl (by kernel_rfl) (xc_b fun ww hf => yiscaled_c window o ww  (by omega) (by (try dsimp only); omega)) ?_
  intro _
  refine xl_endS [1,2,5,8,10,11] [(1,.v (.int .i64 iss)),(2,.v (.int .i64 irs)),(5,.p 0 0),(8,.p 1 0),(10,.p 2 0),(11,.v (.int .i64 (farW window o)))] (by kernel_rfl) ?_
  refine xw_seq ?_
  refine xe_region [true,true,false] (by kernel_rfl) (fun ρ σ => ?_)
  refine xe_tkS [0,1,4,7,8,9] [31,30,29,26,23,22,10] 6 [(31,.v (.agg (optL o).toArray)),(30,.v (.int .i64 (farW window o))),(29,.v (.int .i64 (farW window o))),(26,.v (.int .i64 irs)),(23,.v (.int .i64 iss)),(22,.v (.agg (tupL t).toArray)),(10,.p 2 0)] (fun _ _ h => h) rfl (by kernel_rfl) ?_
  refine xe_all [2] (by kernel_rfl) (by simp) ?_
  refine xs_call 2 46 [.int .i64 iss,.int .i64 1] (some 24) rfl (by kernel_rfl) rfl (by kernel_rfl) (xc_s fun ww hf => iSeqAdd_c iss 1 ww ) ?_
  intro _
  refine xe_op 3 (.agg #[.int .i64 (seqAdd iss 1),.string (⟨#[]⟩ : ByteArray),.int .i64 0,.bool false,.bool false,.bool false]) _ rfl (by kernel_rfl) (by kernel_rfl) (by kernel_rfl) (fun _ _ h => h) (by kernel_rfl) rfl (fun _ _ ww hA => act_build [(0,.int .i64 (seqAdd iss 1))] hA rfl (by kernel_rfl) (by kernel_rfl) ww) rfl ?_
  refine xe_all [5] (by kernel_rfl) (by simp) ?_
  refine xs_call 5 46 [.int .i64 irs,.int .i64 1] (some 27) rfl (by kernel_rfl) rfl (by kernel_rfl) (xc_s fun ww hf => iSeqAdd_c irs 1 ww ) ?_
  intro _
  refine xe_all [6] (by kernel_rfl) (by simp) ?_
  refine xs_call 6 54 [.int .i64 (seqAdd irs 1)] (some 28) rfl (by kernel_rfl) rfl (by kernel_rfl) (xc_r fun ww hw hf => yiReceiverNew_c (seqAdd irs 1) ww   w.heap.size hw) ?_
  rintro ⟨v7a,v7c⟩
  refine xe_op 10 (.agg #[.int .i64 t.ip,.int .i64 t.port,.int .i64 t.my,.int .i64 1,.int .i64 (seqAdd iss 1),.string (⟨#[]⟩ : ByteArray),.int .i64 0,.bool false,.bool false,.bool false,.int .i64 ((receiverNew (seqAdd irs 1)).next),.string ((receiverNew (seqAdd irs 1)).data),.slice v7a ((receiverNew (seqAdd irs 1)).held.length) v7c,.int .i64 ((receiverNew (seqAdd irs 1)).fin),.bool ((receiverNew (seqAdd irs 1)).done),.int .i64 (farW window o),.int .i64 (farW window o),.int .i64 o.mss,.int .i64 o.scale,.bool o.sack,.bool o.stamp,.int .i64 o.val,.int .i64 o.echo,.int .i64 0,.int .i64 0]) _ rfl (by kernel_rfl) (by kernel_rfl) (by kernel_rfl) (fun _ _ h => h) (by kernel_rfl) rfl (fun _ _ ww hA => act_build [(0,.agg (tupL t).toArray),(1,.int .i64 1),(2,.agg #[.int .i64 (seqAdd iss 1),.string (⟨#[]⟩ : ByteArray),.int .i64 0,.bool false,.bool false,.bool false]),(3,.agg (rcvL (receiverNew (seqAdd irs 1)) (.slice v7a ((receiverNew (seqAdd irs 1)).held.length) v7c)).toArray),(4,.int .i64 (farW window o)),(5,.int .i64 (farW window o)),(6,.agg (optL o).toArray)] hA rfl (by kernel_rfl) (by kernel_rfl) ww) rfl ?_
  refine xe_all [11] (by kernel_rfl) (by simp) ?_
  refine xs_store 11 2 0 [.int .i64 t.ip,.int .i64 t.port,.int .i64 t.my,.int .i64 1,.int .i64 (seqAdd iss 1),.string (⟨#[]⟩ : ByteArray),.int .i64 0,.bool false,.bool false,.bool false,.int .i64 ((receiverNew (seqAdd irs 1)).next),.string ((receiverNew (seqAdd irs 1)).data),.slice v7a ((receiverNew (seqAdd irs 1)).held.length) v7c,.int .i64 ((receiverNew (seqAdd irs 1)).fin),.bool ((receiverNew (seqAdd irs 1)).done),.int .i64 (farW window o),.int .i64 (farW window o),.int .i64 o.mss,.int .i64 o.scale,.bool o.sack,.bool o.stamp,.int .i64 o.val,.int .i64 o.echo,.int .i64 0,.int .i64 0] _ rfl (by kernel_rfl) (by kernel_rfl) (by kernel_rfl) (by kernel_rfl) (by first | exact .inr rfl | exact .inl rfl) (by kernel_rfl) rfl ?_
  refine xe_done (by kernel_rfl) ?_
  refine xw_ret ?_
  have hmod : connNew t iss irs o window = (⟨t,1,⟨seqAdd iss 1,(⟨#[]⟩ : ByteArray),0,false,false,false⟩,(receiverNew (seqAdd irs 1)),(farW window o),(farW window o),o,0,0⟩) := by first | rfl | (simp [connNew,farW,receiverNew, *]; done) | grind [connNew,farW,receiverNew]
  exact ⟨[.agg #[.int .i64 t.ip,.int .i64 t.port,.int .i64 t.my,.int .i64 1,.int .i64 (seqAdd iss 1),.string (⟨#[]⟩ : ByteArray),.int .i64 0,.bool false,.bool false,.bool false,.int .i64 ((receiverNew (seqAdd irs 1)).next),.string ((receiverNew (seqAdd irs 1)).data),.slice v7a ((receiverNew (seqAdd irs 1)).held.length) v7c,.int .i64 ((receiverNew (seqAdd irs 1)).fin),.bool ((receiverNew (seqAdd irs 1)).done),.int .i64 (farW window o),.int .i64 (farW window o),.int .i64 o.mss,.int .i64 o.scale,.bool o.sack,.bool o.stamp,.int .i64 o.val,.int .i64 o.echo,.int .i64 0,.int .i64 0]],by kernel_rfl,fun w' hb hf ha => by rw [hmod]; exact xr_one ((v7a,v7c)) rfl rfl (ownF_ownF (hf (ownF w.heap.size (.slice v7a ((receiverNew (seqAdd irs 1)).held.length) v7c) 2 ((receiverNew (seqAdd irs 1)).held.map pceCells)) (by simp)) hB) (fun b hb => ownF_lo (hf (ownF w.heap.size (.slice v7a ((receiverNew (seqAdd irs 1)).held.length) v7c) 2 ((receiverNew (seqAdd irs 1)).held.map pceCells)) (by simp)) hb) hb⟩
end Go.Proofs.Ytcoppgllfipbeaa
