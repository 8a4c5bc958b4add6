/- Contracts that this law needs, part 1. -/
import Derived.Test.YteoipoenbofemaaYW
import Derived.Test.YteoipoenbofemaaA5
import Derived.Test.YteoipoenbofemaaD0
import Derived.Test.YteoipoenbofemaaXN
import Derived.Test.YteoipoenbofemaaE
import Derived.Test.YteoipoenbofemaaSPiece
import Derived.Test.YteoipoenbofemaaC1
import Derived.Test.YteoipoenbofemaaME
import Derived.Test.YteoipoenbofemaaXM
import Derived.Test.YteoipoenbofemaaMH
import Derived.Test.YteoipoenbofemaaMF
import Derived.Test.YteoipoenbofemaaMG
namespace Go.Proofs.Yteoipoenbofemaa
open Go.RowKit
set_option linter.unusedVariables false
set_option linter.unusedSimpArgs false
set_option maxRecDepth 100000

@[simp] theorem inB18_1 : inB 1 1 8 = true := rfl
@[simp] theorem inB18_2 : inB 2 1 8 = true := rfl
@[simp] theorem inB18_3 : inB 3 1 8 = true := rfl
@[simp] theorem inB18_4 : inB 4 1 8 = true := rfl
@[simp] theorem inB18_5 : inB 5 1 8 = true := rfl
@[simp] theorem inB18_6 : inB 6 1 8 = true := rfl
@[simp] theorem inB18_7 : inB 7 1 8 = true := rfl
@[simp] theorem inB18_8 : inB 8 1 8 = true := rfl
set_option maxHeartbeats 1000000 in
theorem yiscaled_c (window : Int) (o : Opt) (w : World) (h0 : 0 ≤ window ∧ window ≤ 65535) (h1 : o.scale ≤ 14) : Calls Try.prog 77 #[.int .i64 window, .agg (optL o).toArray] w fun e w' => e = .returned (.int .i64 (farW window o)) ∧ Below w.heap.size w w' := by
  refine x_calls (args := [.int .i64 window,.agg (optL o).toArray]) (fn := Try.f77) [] Try.func77 rfl Try.ntmps77 rfl (by simp) ?_
  refine xw_seq ?_
  refine xw_region ?_
  refine xl_end [0,3] ⟨[(0,.v (.int .i64 window)),(3,.p 0 0)],[⟨40,optL o⟩],[],[]⟩ (by kernel_rfl) ?_
  refine xw_seq ?_
  refine xw_region ?_
  refine xl_opS 3 [5,7] [(5,.v (.int .i64 window)),(7,.v (.int .i64 o.scale))] (.int .i64 (max o.scale 0)) (by kernel_rfl) rfl (by kernel_rfl) rfl (fun _ _ _ ww hr => act_max2 hr.1 rfl rfl rfl rfl rfl ww) ?_
  refine xl_opS 0 [5,8] [(5,.v (.int .i64 window)),(8,.v (.int .i64 (max o.scale 0)))] (.int .i64 (IntKind.i64.wrap (window * 2 ^ (max o.scale 0).toNat))) (by kernel_rfl) rfl (by kernel_rfl) rfl (fun _ _ _ ww hr => act_bin hr.1 rfl (by kernel_rfl) (by kernel_rfl) (shl_run (k' := .i64) (by have e : ((IntKind.i64.bits : Nat) : Int) = 64 := rfl; (try rw [u64_id (by omega) (by omega)]); omega) (by have e : ((IntKind.i64.bits : Nat) : Int) = 64 := rfl; (try rw [u64_id (by omega) (by omega)]); omega) ww)) ?_
  refine xl_opS 0 [9] [(9,.v (.int .i64 (IntKind.i64.wrap (window * 2 ^ (max o.scale 0).toNat))))] (.int .i64 (min (IntKind.i64.wrap (window * 2 ^ (max o.scale 0).toNat)) 1073725440)) (by kernel_rfl) rfl (by kernel_rfl) rfl (fun _ _ _ ww hr => act_min2 hr.1 rfl rfl rfl rfl rfl ww) ?_
  refine xl_runS 1 [4] [(4,.v (.int .i64 (min (IntKind.i64.wrap (window * 2 ^ (max o.scale 0).toNat)) 1073725440)))] (by kernel_rfl) ?_
  refine xl_eqS (t' := [(4,.v (.int .i64 (min (window * 2 ^ (max 0 o.scale).toNat) 1073725440)))]) (by rw [show (max o.scale 0) = (max 0 o.scale) from (by omega),show (IntKind.i64.wrap (window * 2 ^ (max 0 o.scale).toNat)) = (window * 2 ^ (max 0 o.scale).toNat) from far_wrap (by omega) (by omega) (by omega) (by omega)]) ?_
  refine xl_endS [4] [(4,.v (.int .i64 (min (window * 2 ^ (max 0 o.scale).toNat) 1073725440)))] (by kernel_rfl) ?_
  refine xw_ret ?_
  have hmod : farW window o = (min (window * 2 ^ (max 0 o.scale).toNat) 1073725440) := by (unfold farW; have := far_le (a := window) (b := max 0 o.scale) (by omega) (by omega) (by omega) (by omega); omega)
  exact ⟨[.int .i64 (min (window * 2 ^ (max 0 o.scale).toNat) 1073725440)],by kernel_rfl,fun w' hb hf => by rw [hmod]; exact ⟨rfl,hb⟩⟩
set_option maxHeartbeats 1000000 in
theorem ysReceiverNew_c (n : Int) (w : World)  (B : Nat) (hB : B ≤ w.heap.size) : Calls Try.prog 73 #[.int .i64 n] w fun e w' => XRs w w' e (α := Option Addr × Nat) (fun y => .agg (rcvL (receiverNew n) (.slice y.1 ((receiverNew n).held.length) y.2)).toArray) (fun y => [ownF B (.slice y.1 ((receiverNew n).held.length) y.2) 2 ((receiverNew n).held.map pceCells)]) := by
  refine x_callsA (args := [.int .i64 n]) (fn := Try.f73) [] Try.func73 rfl Try.ntmps73 rfl (by simp) ?_
  refine xw_seq ?_
  refine xw_region ?_
  refine xl_end [0,2] ⟨[(0,.v (.int .i64 n)),(2,.p 0 0)],[⟨49,rcvZ⟩],[],[]⟩ (by kernel_rfl) ?_
  refine xw_seq ?_
  refine xw_region ?_
  refine xl_callS 1 [2,3] [(2,.p 0 0),(3,.v (.int .i64 n))] 87 [.int .i64 n] (some 4) (by kernel_rfl) rfl (by kernel_rfl) rfl (by kernel_rfl) (xc_s fun ww hf => sRest_c n ww ) ?_
  intro _
  refine xl_opS 0 [2,4] [(2,.p 0 0),(4,.v (.int .i64 (n % 4294967296)))] (.agg #[.int .i64 (n % 4294967296),.string (⟨#[]⟩ : ByteArray),.slice none 0 0,.int .i64 (-1),.bool false]) (by kernel_rfl) rfl (by kernel_rfl) rfl (fun _ _ _ ww hr => act_build [(0,.int .i64 (n % 4294967296)),(3,.int .i64 (-1))] hr.1 rfl (by kernel_rfl) (by kernel_rfl) ww) ?_
  refine xl_end [2] ⟨[(2,.p 0 0)],[⟨49,[.int .i64 (n % 4294967296),.string (⟨#[]⟩ : ByteArray),.slice none 0 0,.int .i64 (-1),.bool false]⟩],[],[]⟩ (by kernel_rfl) ?_
  refine xw_ret ?_
  have hmod : receiverNew n = (⟨n % 4294967296,(⟨#[]⟩ : ByteArray),[],(-1),false⟩) := by first | rfl | (simp [receiverNew,seqAdd]; done)
  exact ⟨[.agg #[.int .i64 (n % 4294967296),.string (⟨#[]⟩ : ByteArray),.slice none 0 0,.int .i64 (-1),.bool false]],by kernel_rfl,fun w' hb hf ha => by rw [hmod]; exact xr_one ((none,0)) rfl rfl (.inl ⟨rfl,_,rfl⟩) (fun b hb => (hb.1 rfl).elim) hb⟩
set_option maxHeartbeats 1000000 in
theorem ysConnNew_c (t : Tup) (iss : Int) (irs : Int) (o : Opt) (window : Int) (w : World)  (B : Nat) (hB : B ≤ w.heap.size) : Calls Try.prog 25 #[.agg (tupL t).toArray, .int .i64 iss, .int .i64 irs, .agg (optL o).toArray, .int .i64 window] w fun e w' => XRs w w' e (α := Option Addr × Nat) (fun y => .agg (conL (connNew t iss irs o window) (.slice y.1 ((connNew t iss irs o window).r.held.length) y.2)).toArray) (fun y => [ownF B (.slice y.1 ((connNew t iss irs o window).r.held.length) y.2) 2 ((connNew t iss irs o window).r.held.map pceCells)]) := by
  refine x_callsA (args := [.agg (tupL t).toArray,.int .i64 iss,.int .i64 irs,.agg (optL o).toArray,.int .i64 window]) (fn := Try.f25) [] Try.func25 rfl Try.ntmps25 rfl (by simp) ?_
  refine xw_seq ?_
  refine xw_region ?_
  refine xl_end [1,2,4,5,8,10] ⟨[(1,.v (.int .i64 iss)),(2,.v (.int .i64 irs)),(4,.v (.int .i64 window)),(5,.p 0 0),(8,.p 1 0),(10,.p 2 0)],[⟨29,tupL t⟩,⟨40,optL o⟩,⟨51,conZ⟩],[],[]⟩ (by kernel_rfl) ?_
  refine xw_seq ?_
  refine xw_seq ?_
  refine xw_region ?_
  refine xl_callS 1 [1,2,4,5,8,10,12] [(1,.v (.int .i64 iss)),(2,.v (.int .i64 irs)),(4,.v (.int .i64 window)),(5,.p 0 0),(8,.p 1 0),(10,.p 2 0),(12,.v (.agg (optL o).toArray))] 68 [.agg (optL o).toArray] (some 13) (by kernel_rfl) rfl (by kernel_rfl) rfl (by kernel_rfl) (xc_b fun ww hf => sOptionsOk_c o.mss o.scale o.sack o.stamp o.val o.echo ww ) ?_
  intro _
  refine xl_endS [1,2,4,5,8,10,14] [(1,.v (.int .i64 iss)),(2,.v (.int .i64 irs)),(4,.v (.int .i64 window)),(5,.p 0 0),(8,.p 1 0),(10,.p 2 0),(14,.v (.bool (!(optionsOk o))))] (by kernel_rfl) ?_
  refine xw_cond (b := !(optionsOk o)) (by kernel_rfl) (fun h1 => ?_) (fun h1 => ?_)
  have h1n := not_t h1
  refine xw_region ?_
  refine xl_callS 0 [1,2,4,5,8,10] [(1,.v (.int .i64 iss)),(2,.v (.int .i64 irs)),(4,.v (.int .i64 window)),(5,.p 0 0),(8,.p 1 0),(10,.p 2 0)] 69 [] (some 15) (by kernel_rfl) rfl (by kernel_rfl) rfl (by kernel_rfl) (xc_b fun ww hf => sNoOptions_c  ww ) ?_
  intro _
  refine xl_end [1,2,4,5,8,10] ⟨[(1,.v (.int .i64 iss)),(2,.v (.int .i64 irs)),(4,.v (.int .i64 window)),(5,.p 0 0),(8,.p 1 0),(10,.p 2 0)],[⟨29,tupL t⟩,⟨40,[.int .i64 0,.int .i64 (-1),.bool false,.bool false,.int .i64 0,.int .i64 0]⟩,⟨51,conZ⟩],[],[]⟩ (by kernel_rfl) ?_
  refine xw_seq ?_
  refine xw_seq ?_
  refine xw_region ?_
  refine xl_callS 1 [1,2,4,5,8,10,16] [(1,.v (.int .i64 iss)),(2,.v (.int .i64 irs)),(4,.v (.int .i64 window)),(5,.p 0 0),(8,.p 1 0),(10,.p 2 0),(16,.v (.int .i64 window))] 70 [.int .i64 window,.int .i64 16] (some 17) (by kernel_rfl) rfl (by kernel_rfl) rfl (by kernel_rfl) (xc_s fun ww hf => sWordOk16_c window ww) ?_
  intro _
  refine xl_endS [1,2,4,5,8,10,18] [(1,.v (.int .i64 iss)),(2,.v (.int .i64 irs)),(4,.v (.int .i64 window)),(5,.p 0 0),(8,.p 1 0),(10,.p 2 0),(18,.v (.bool (!(wordOk window 16))))] (by kernel_rfl) ?_
  refine xw_cond (b := !(wordOk window 16)) (by kernel_rfl) (fun h2 => ?_) (fun h2 => ?_)
  have h2n := not_t h2
  refine xw_region ?_
  refine xl_endS [1,2,4,5,8,10] [(1,.v (.int .i64 iss)),(2,.v (.int .i64 irs)),(4,.v (.int .i64 0)),(5,.p 0 0),(8,.p 1 0),(10,.p 2 0)] (by kernel_rfl) ?_
  refine xw_seq ?_
  refine xw_region ?_
  refine xl_callS 3 [1,2,5,8,10,19,21] [(1,.v (.int .i64 iss)),(2,.v (.int .i64 irs)),(5,.p 0 0),(8,.p 1 0),(10,.p 2 0),(19,.v (.int .i64 0)),(21,.v (.int .i64 (-1)))] 71 [.int .i64 0,.int .i64 (-1)] (some 22) (by kernel_rfl) rfl (by kernel_rfl) rfl (by kernel_rfl) (xc_s fun ww hf => l1Max_c 0 (-1) ww ) ?_
  intro _
  refine xl_opS 1 [1,2,5,8,10,19,23] [(1,.v (.int .i64 iss)),(2,.v (.int .i64 irs)),(5,.p 0 0),(8,.p 1 0),(10,.p 2 0),(19,.v (.int .i64 0)),(23,.v (.int .u64 (IntKind.u64.wrap (max 0 (-1)))))] (.int .i64 (IntKind.i64.wrap (0 * 2 ^ (IntKind.u64.wrap (max 0 (-1))).toNat))) (by kernel_rfl) rfl (by kernel_rfl) rfl (fun _ _ _ ww hr => act_bin hr.1 rfl (by kernel_rfl) (by kernel_rfl) (shl_run (k' := .u64) (by have e : ((IntKind.i64.bits : Nat) : Int) = 64 := rfl; (try rw [u64_id (by omega) (by omega)]); omega) (by have e : ((IntKind.i64.bits : Nat) : Int) = 64 := rfl; (try rw [u64_id (by omega) (by omega)]); omega) ww)) ?_
  refine xl_runS 1 [1,2,5,8,10,11] [(1,.v (.int .i64 iss)),(2,.v (.int .i64 irs)),(5,.p 0 0),(8,.p 1 0),(10,.p 2 0),(11,.v (.int .i64 (IntKind.i64.wrap (0 * 2 ^ (IntKind.u64.wrap (max 0 (-1))).toNat))))] (by kernel_rfl) ?_
  refine xl_eqS (t' := [(1,.v (.int .i64 iss)),(2,.v (.int .i64 irs)),(5,.p 0 0),(8,.p 1 0),(10,.p 2 0),(11,.v (.int .i64 (0 * 2 ^ (max 0 (-1) : Int).toNat)))]) (by rw [show (IntKind.u64.wrap (max 0 (-1))) = (max 0 (-1) : Int) from u64_id (by omega) (by omega),show (IntKind.i64.wrap (0 * 2 ^ (max 0 (-1) : Int).toNat)) = (0 * 2 ^ (max 0 (-1) : Int).toNat) from far_wrap (by omega) (by omega) (by omega) (by omega)]) ?_
  refine xl_endS [1,2,5,8,10,11] [(1,.v (.int .i64 iss)),(2,.v (.int .i64 irs)),(5,.p 0 0),(8,.p 1 0),(10,.p 2 0),(11,.v (.int .i64 (0 * 2 ^ (max 0 (-1) : Int).toNat)))] (by kernel_rfl) ?_
  refine xw_seq ?_
  refine xe_region [true,true,false] (by kernel_rfl) (fun ρ σ => ?_)
  refine xe_tkS [0,1,4,7,8,9] [34,33,32,29,26,25,10] 6 [(34,.v (.agg #[.int .i64 0,.int .i64 (-1),.bool false,.bool false,.int .i64 0,.int .i64 0])),(33,.v (.int .i64 (0 * 2 ^ (max 0 (-1) : Int).toNat))),(32,.v (.int .i64 (0 * 2 ^ (max 0 (-1) : Int).toNat))),(29,.v (.int .i64 irs)),(26,.v (.int .i64 iss)),(25,.v (.agg (tupL t).toArray)),(10,.p 2 0)] (fun _ _ h => h) rfl (by kernel_rfl) ?_
  refine xe_all [2] (by kernel_rfl) (by simp) ?_
  refine xs_call 2 72 [.int .i64 iss,.int .i64 1] (some 27) rfl (by kernel_rfl) rfl (by kernel_rfl) (xc_s fun ww hf => sSeqAdd_c iss 1 ww ) ?_
  intro _
  refine xe_op 3 (.agg #[.int .i64 (seqAdd iss 1),.string (⟨#[]⟩ : ByteArray),.int .i64 0,.bool false,.bool false,.bool false]) _ rfl (by kernel_rfl) (by kernel_rfl) (by kernel_rfl) (fun _ _ h => h) (by kernel_rfl) rfl (fun _ _ ww hA => act_build [(0,.int .i64 (seqAdd iss 1))] hA rfl (by kernel_rfl) (by kernel_rfl) ww) rfl ?_
  refine xe_all [5] (by kernel_rfl) (by simp) ?_
  refine xs_call 5 72 [.int .i64 irs,.int .i64 1] (some 30) rfl (by kernel_rfl) rfl (by kernel_rfl) (xc_s fun ww hf => sSeqAdd_c irs 1 ww ) ?_
  intro _
  refine xe_all [6] (by kernel_rfl) (by simp) ?_
  refine xs_call 6 73 [.int .i64 (seqAdd irs 1)] (some 31) rfl (by kernel_rfl) rfl (by kernel_rfl) (xc_r fun ww hw hf => ysReceiverNew_c (seqAdd irs 1) ww   w.heap.size hw) ?_
  rintro ⟨v3a,v3c⟩
  refine xe_op 10 (.agg #[.int .i64 t.ip,.int .i64 t.port,.int .i64 t.my,.int .i64 1,.int .i64 (seqAdd iss 1),.string (⟨#[]⟩ : ByteArray),.int .i64 0,.bool false,.bool false,.bool false,.int .i64 ((receiverNew (seqAdd irs 1)).next),.string ((receiverNew (seqAdd irs 1)).data),.slice v3a ((receiverNew (seqAdd irs 1)).held.length) v3c,.int .i64 ((receiverNew (seqAdd irs 1)).fin),.bool ((receiverNew (seqAdd irs 1)).done),.int .i64 (0 * 2 ^ (max 0 (-1) : Int).toNat),.int .i64 (0 * 2 ^ (max 0 (-1) : Int).toNat),.int .i64 0,.int .i64 (-1),.bool false,.bool false,.int .i64 0,.int .i64 0,.int .i64 0,.int .i64 0]) _ rfl (by kernel_rfl) (by kernel_rfl) (by kernel_rfl) (fun _ _ h => h) (by kernel_rfl) rfl (fun _ _ ww hA => act_build [(0,.agg (tupL t).toArray),(1,.int .i64 1),(2,.agg #[.int .i64 (seqAdd iss 1),.string (⟨#[]⟩ : ByteArray),.int .i64 0,.bool false,.bool false,.bool false]),(3,.agg (rcvL (receiverNew (seqAdd irs 1)) (.slice v3a ((receiverNew (seqAdd irs 1)).held.length) v3c)).toArray),(4,.int .i64 (0 * 2 ^ (max 0 (-1) : Int).toNat)),(5,.int .i64 (0 * 2 ^ (max 0 (-1) : Int).toNat)),(6,.agg #[.int .i64 0,.int .i64 (-1),.bool false,.bool false,.int .i64 0,.int .i64 0])] hA rfl (by kernel_rfl) (by kernel_rfl) ww) rfl ?_
  refine xe_all [11] (by kernel_rfl) (by simp) ?_
  refine xs_store 11 2 0 [.int .i64 t.ip,.int .i64 t.port,.int .i64 t.my,.int .i64 1,.int .i64 (seqAdd iss 1),.string (⟨#[]⟩ : ByteArray),.int .i64 0,.bool false,.bool false,.bool false,.int .i64 ((receiverNew (seqAdd irs 1)).next),.string ((receiverNew (seqAdd irs 1)).data),.slice v3a ((receiverNew (seqAdd irs 1)).held.length) v3c,.int .i64 ((receiverNew (seqAdd irs 1)).fin),.bool ((receiverNew (seqAdd irs 1)).done),.int .i64 (0 * 2 ^ (max 0 (-1) : Int).toNat),.int .i64 (0 * 2 ^ (max 0 (-1) : Int).toNat),.int .i64 0,.int .i64 (-1),.bool false,.bool false,.int .i64 0,.int .i64 0,.int .i64 0,.int .i64 0] _ rfl (by kernel_rfl) (by kernel_rfl) (by kernel_rfl) (by kernel_rfl) (by first | exact .inr rfl | exact .inl rfl) (by kernel_rfl) rfl ?_
  refine xe_done (by kernel_rfl) ?_
  refine xw_ret ?_
  have hmod : connNew t iss irs o window = (⟨t,1,⟨seqAdd iss 1,(⟨#[]⟩ : ByteArray),0,false,false,false⟩,(receiverNew (seqAdd irs 1)),0 * 2 ^ (max 0 (-1) : Int).toNat,0 * 2 ^ (max 0 (-1) : Int).toNat,⟨0,(-1),false,false,0,0⟩,0,0⟩) := by first | rfl | (simp [connNew,farW,receiverNew, *]; done) | grind [connNew,farW,receiverNew]
  exact ⟨[.agg #[.int .i64 t.ip,.int .i64 t.port,.int .i64 t.my,.int .i64 1,.int .i64 (seqAdd iss 1),.string (⟨#[]⟩ : ByteArray),.int .i64 0,.bool false,.bool false,.bool false,.int .i64 ((receiverNew (seqAdd irs 1)).next),.string ((receiverNew (seqAdd irs 1)).data),.slice v3a ((receiverNew (seqAdd irs 1)).held.length) v3c,.int .i64 ((receiverNew (seqAdd irs 1)).fin),.bool ((receiverNew (seqAdd irs 1)).done),.int .i64 (0 * 2 ^ (max 0 (-1) : Int).toNat),.int .i64 (0 * 2 ^ (max 0 (-1) : Int).toNat),.int .i64 0,.int .i64 (-1),.bool false,.bool false,.int .i64 0,.int .i64 0,.int .i64 0,.int .i64 0]],by kernel_rfl,fun w' hb hf ha => by rw [hmod]; exact xr_one ((v3a,v3c)) rfl rfl (ownF_ownF (hf (ownF w.heap.size (.slice v3a ((receiverNew (seqAdd irs 1)).held.length) v3c) 2 ((receiverNew (seqAdd irs 1)).held.map pceCells)) (by simp)) hB) (fun b hb => ownF_lo (hf (ownF w.heap.size (.slice v3a ((receiverNew (seqAdd irs 1)).held.length) v3c) 2 ((receiverNew (seqAdd irs 1)).held.map pceCells)) (by simp)) hb) hb⟩
  have h2n := not_f h2
  have h2nw := wordOk16_bd (by simpa using h2n)
  obtain ⟨h2nw0,h2nw1⟩ := h2nw
  refine xw_skip ?_
  refine xw_seq ?_
  refine xw_region ?_
  refine xl_callS 3 [1,2,5,8,10,19,21] [(1,.v (.int .i64 iss)),(2,.v (.int .i64 irs)),(5,.p 0 0),(8,.p 1 0),(10,.p 2 0),(19,.v (.int .i64 window)),(21,.v (.int .i64 (-1)))] 71 [.int .i64 0,.int .i64 (-1)] (some 22) (by kernel_rfl) rfl (by kernel_rfl) rfl (by kernel_rfl) (xc_s fun ww hf => l1Max_c 0 (-1) ww ) ?_
  intro _
  refine xl_opS 1 [1,2,5,8,10,19,23] [(1,.v (.int .i64 iss)),(2,.v (.int .i64 irs)),(5,.p 0 0),(8,.p 1 0),(10,.p 2 0),(19,.v (.int .i64 window)),(23,.v (.int .u64 (IntKind.u64.wrap (max 0 (-1)))))] (.int .i64 (IntKind.i64.wrap (window * 2 ^ (IntKind.u64.wrap (max 0 (-1))).toNat))) (by kernel_rfl) rfl (by kernel_rfl) rfl (fun _ _ _ ww hr => act_bin hr.1 rfl (by kernel_rfl) (by kernel_rfl) (shl_run (k' := .u64) (by have e : ((IntKind.i64.bits : Nat) : Int) = 64 := rfl; (try rw [u64_id (by omega) (by omega)]); omega) (by have e : ((IntKind.i64.bits : Nat) : Int) = 64 := rfl; (try rw [u64_id (by omega) (by omega)]); omega) ww)) ?_
  refine xl_runS 1 [1,2,5,8,10,11] [(1,.v (.int .i64 iss)),(2,.v (.int .i64 irs)),(5,.p 0 0),(8,.p 1 0),(10,.p 2 0),(11,.v (.int .i64 (IntKind.i64.wrap (window * 2 ^ (IntKind.u64.wrap (max 0 (-1))).toNat))))] (by kernel_rfl) ?_
  refine xl_eqS (t' := [(1,.v (.int .i64 iss)),(2,.v (.int .i64 irs)),(5,.p 0 0),(8,.p 1 0),(10,.p 2 0),(11,.v (.int .i64 (window * 2 ^ (max 0 (-1) : Int).toNat)))]) (by rw [show (IntKind.u64.wrap (max 0 (-1))) = (max 0 (-1) : Int) from u64_id (by omega) (by omega),show (IntKind.i64.wrap (window * 2 ^ (max 0 (-1) : Int).toNat)) = (window * 2 ^ (max 0 (-1) : Int).toNat) from far_wrap (by omega) (by omega) (by omega) (by omega)]) ?_
  refine xl_endS [1,2,5,8,10,11] [(1,.v (.int .i64 iss)),(2,.v (.int .i64 irs)),(5,.p 0 0),(8,.p 1 0),(10,.p 2 0),(11,.v (.int .i64 (window * 2 ^ (max 0 (-1) : Int).toNat)))] (by kernel_rfl) ?_
  refine xw_seq ?_
  refine xe_region [true,true,false] (by kernel_rfl) (fun ρ σ => ?_)
  refine xe_tkS [0,1,4,7,8,9] [34,33,32,29,26,25,10] 6 [(34,.v (.agg #[.int .i64 0,.int .i64 (-1),.bool false,.bool false,.int .i64 0,.int .i64 0])),(33,.v (.int .i64 (window * 2 ^ (max 0 (-1) : Int).toNat))),(32,.v (.int .i64 (window * 2 ^ (max 0 (-1) : Int).toNat))),(29,.v (.int .i64 irs)),(26,.v (.int .i64 iss)),(25,.v (.agg (tupL t).toArray)),(10,.p 2 0)] (fun _ _ h => h) rfl (by kernel_rfl) ?_
  refine xe_all [2] (by kernel_rfl) (by simp) ?_
  refine xs_call 2 72 [.int .i64 iss,.int .i64 1] (some 27) rfl (by kernel_rfl) rfl (by kernel_rfl) (xc_s fun ww hf => sSeqAdd_c iss 1 ww ) ?_
  intro _
  refine xe_op 3 (.agg #[.int .i64 (seqAdd iss 1),.string (⟨#[]⟩ : ByteArray),.int .i64 0,.bool false,.bool false,.bool false]) _ rfl (by kernel_rfl) (by kernel_rfl) (by kernel_rfl) (fun _ _ h => h) (by kernel_rfl) rfl (fun _ _ ww hA => act_build [(0,.int .i64 (seqAdd iss 1))] hA rfl (by kernel_rfl) (by kernel_rfl) ww) rfl ?_
  refine xe_all [5] (by kernel_rfl) (by simp) ?_
  refine xs_call 5 72 [.int .i64 irs,.int .i64 1] (some 30) rfl (by kernel_rfl) rfl (by kernel_rfl) (xc_s fun ww hf => sSeqAdd_c irs 1 ww ) ?_
  intro _
  refine xe_all [6] (by kernel_rfl) (by simp) ?_
  refine xs_call 6 73 [.int .i64 (seqAdd irs 1)] (some 31) rfl (by kernel_rfl) rfl (by kernel_rfl) (xc_r fun ww hw hf => ysReceiverNew_c (seqAdd irs 1) ww   w.heap.size hw) ?_
  rintro ⟨v4a,v4c⟩
  refine xe_op 10 (.agg #[.int .i64 t.ip,.int .i64 t.port,.int .i64 t.my,.int .i64 1,.int .i64 (seqAdd iss 1),.string (⟨#[]⟩ : ByteArray),.int .i64 0,.bool false,.bool false,.bool false,.int .i64 ((receiverNew (seqAdd irs 1)).next),.string ((receiverNew (seqAdd irs 1)).data),.slice v4a ((receiverNew (seqAdd irs 1)).held.length) v4c,.int .i64 ((receiverNew (seqAdd irs 1)).fin),.bool ((receiverNew (seqAdd irs 1)).done),.int .i64 (window * 2 ^ (max 0 (-1) : Int).toNat),.int .i64 (window * 2 ^ (max 0 (-1) : Int).toNat),.int .i64 0,.int .i64 (-1),.bool false,.bool false,.int .i64 0,.int .i64 0,.int .i64 0,.int .i64 0]) _ rfl (by kernel_rfl) (by kernel_rfl) (by kernel_rfl) (fun _ _ h => h) (by kernel_rfl) rfl (fun _ _ ww hA => act_build [(0,.agg (tupL t).toArray),(1,.int .i64 1),(2,.agg #[.int .i64 (seqAdd iss 1),.string (⟨#[]⟩ : ByteArray),.int .i64 0,.bool false,.bool false,.bool false]),(3,.agg (rcvL (receiverNew (seqAdd irs 1)) (.slice v4a ((receiverNew (seqAdd irs 1)).held.length) v4c)).toArray),(4,.int .i64 (window * 2 ^ (max 0 (-1) : Int).toNat)),(5,.int .i64 (window * 2 ^ (max 0 (-1) : Int).toNat)),(6,.agg #[.int .i64 0,.int .i64 (-1),.bool false,.bool false,.int .i64 0,.int .i64 0])] hA rfl (by kernel_rfl) (by kernel_rfl) ww) rfl ?_
  refine xe_all [11] (by kernel_rfl) (by simp) ?_
  refine xs_store 11 2 0 [.int .i64 t.ip,.int .i64 t.port,.int .i64 t.my,.int .i64 1,.int .i64 (seqAdd iss 1),.string (⟨#[]⟩ : ByteArray),.int .i64 0,.bool false,.bool false,.bool false,.int .i64 ((receiverNew (seqAdd irs 1)).next),.string ((receiverNew (seqAdd irs 1)).data),.slice v4a ((receiverNew (seqAdd irs 1)).held.length) v4c,.int .i64 ((receiverNew (seqAdd irs 1)).fin),.bool ((receiverNew (seqAdd irs 1)).done),.int .i64 (window * 2 ^ (max 0 (-1) : Int).toNat),.int .i64 (window * 2 ^ (max 0 (-1) : Int).toNat),.int .i64 0,.int .i64 (-1),.bool false,.bool false,.int .i64 0,.int .i64 0,.int .i64 0,.int .i64 0] _ rfl (by kernel_rfl) (by kernel_rfl) (by kernel_rfl) (by kernel_rfl) (by first | exact .inr rfl | exact .inl rfl) (by kernel_rfl) rfl ?_
  refine xe_done (by kernel_rfl) ?_
  refine xw_ret ?_
  have hmod : connNew t iss irs o window = (⟨t,1,⟨seqAdd iss 1,(⟨#[]⟩ : ByteArray),0,false,false,false⟩,(receiverNew (seqAdd irs 1)),window * 2 ^ (max 0 (-1) : Int).toNat,window * 2 ^ (max 0 (-1) : Int).toNat,⟨0,(-1),false,false,0,0⟩,0,0⟩) := by first | rfl | (simp [connNew,farW,receiverNew, *]; done) | grind [connNew,farW,receiverNew]
  exact ⟨[.agg #[.int .i64 t.ip,.int .i64 t.port,.int .i64 t.my,.int .i64 1,.int .i64 (seqAdd iss 1),.string (⟨#[]⟩ : ByteArray),.int .i64 0,.bool false,.bool false,.bool false,.int .i64 ((receiverNew (seqAdd irs 1)).next),.string ((receiverNew (seqAdd irs 1)).data),.slice v4a ((receiverNew (seqAdd irs 1)).held.length) v4c,.int .i64 ((receiverNew (seqAdd irs 1)).fin),.bool ((receiverNew (seqAdd irs 1)).done),.int .i64 (window * 2 ^ (max 0 (-1) : Int).toNat),.int .i64 (window * 2 ^ (max 0 (-1) : Int).toNat),.int .i64 0,.int .i64 (-1),.bool false,.bool false,.int .i64 0,.int .i64 0,.int .i64 0,.int .i64 0]],by kernel_rfl,fun w' hb hf ha => by rw [hmod]; exact xr_one ((v4a,v4c)) rfl rfl (ownF_ownF (hf (ownF w.heap.size (.slice v4a ((receiverNew (seqAdd irs 1)).held.length) v4c) 2 ((receiverNew (seqAdd irs 1)).held.map pceCells)) (by simp)) hB) (fun b hb => ownF_lo (hf (ownF w.heap.size (.slice v4a ((receiverNew (seqAdd irs 1)).held.length) v4c) 2 ((receiverNew (seqAdd irs 1)).held.map pceCells)) (by simp)) hb) hb⟩
  have h1n := not_f h1
  have h1nw := optionsOk_bd (by simpa using h1n)
  obtain ⟨h1nw0,h1nw1⟩ := h1nw
  refine xw_skip ?_
  refine xw_seq ?_
  refine xw_seq ?_
  refine xw_region ?_
  refine xl_callS 1 [1,2,4,5,8,10,16] [(1,.v (.int .i64 iss)),(2,.v (.int .i64 irs)),(4,.v (.int .i64 window)),(5,.p 0 0),(8,.p 1 0),(10,.p 2 0),(16,.v (.int .i64 window))] 70 [.int .i64 window,.int .i64 16] (some 17) (by kernel_rfl) rfl (by kernel_rfl) rfl (by kernel_rfl) (xc_s fun ww hf => sWordOk16_c window ww) ?_
  intro _
  refine xl_endS [1,2,4,5,8,10,18] [(1,.v (.int .i64 iss)),(2,.v (.int .i64 irs)),(4,.v (.int .i64 window)),(5,.p 0 0),(8,.p 1 0),(10,.p 2 0),(18,.v (.bool (!(wordOk window 16))))] (by kernel_rfl) ?_
  refine xw_cond (b := !(wordOk window 16)) (by kernel_rfl) (fun h5 => ?_) (fun h5 => ?_)
  have h5n := not_t h5
  refine xw_region ?_
  refine xl_endS [1,2,4,5,8,10] [(1,.v (.int .i64 iss)),(2,.v (.int .i64 irs)),(4,.v (.int .i64 0)),(5,.p 0 0),(8,.p 1 0),(10,.p 2 0)] (by kernel_rfl) ?_
  refine xw_seq ?_
  refine xw_region ?_
  refine xl_callS 3 [1,2,5,8,10,19,21] [(1,.v (.int .i64 iss)),(2,.v (.int .i64 irs)),(5,.p 0 0),(8,.p 1 0),(10,.p 2 0),(19,.v (.int .i64 0)),(21,.v (.int .i64 o.scale))] 71 [.int .i64 0,.int .i64 o.scale] (some 22) (by kernel_rfl) rfl (by kernel_rfl) rfl (by kernel_rfl) (xc_s fun ww hf => l1Max_c 0 o.scale ww ) ?_
  intro _
  refine xl_opS 1 [1,2,5,8,10,19,23] [(1,.v (.int .i64 iss)),(2,.v (.int .i64 irs)),(5,.p 0 0),(8,.p 1 0),(10,.p 2 0),(19,.v (.int .i64 0)),(23,.v (.int .u64 (IntKind.u64.wrap (max 0 o.scale))))] (.int .i64 (IntKind.i64.wrap (0 * 2 ^ (IntKind.u64.wrap (max 0 o.scale)).toNat))) (by kernel_rfl) rfl (by kernel_rfl) rfl (fun _ _ _ ww hr => act_bin hr.1 rfl (by kernel_rfl) (by kernel_rfl) (shl_run (k' := .u64) (by have e : ((IntKind.i64.bits : Nat) : Int) = 64 := rfl; (try rw [u64_id (by omega) (by omega)]); omega) (by have e : ((IntKind.i64.bits : Nat) : Int) = 64 := rfl; (try rw [u64_id (by omega) (by omega)]); omega) ww)) ?_
  refine xl_runS 1 [1,2,5,8,10,11] [(1,.v (.int .i64 iss)),(2,.v (.int .i64 irs)),(5,.p 0 0),(8,.p 1 0),(10,.p 2 0),(11,.v (.int .i64 (IntKind.i64.wrap (0 * 2 ^ (IntKind.u64.wrap (max 0 o.scale)).toNat))))] (by kernel_rfl) ?_
  refine xl_eqS (t' := [(1,.v (.int .i64 iss)),(2,.v (.int .i64 irs)),(5,.p 0 0),(8,.p 1 0),(10,.p 2 0),(11,.v (.int .i64 (0 * 2 ^ (max 0 o.scale).toNat)))]) (by rw [show (IntKind.u64.wrap (max 0 o.scale)) = (max 0 o.scale) from u64_id (by omega) (by omega),show (IntKind.i64.wrap (0 * 2 ^ (max 0 o.scale).toNat)) = (0 * 2 ^ (max 0 o.scale).toNat) from far_wrap (by omega) (by omega) (by omega) (by omega)]) ?_
  refine xl_endS [1,2,5,8,10,11] [(1,.v (.int .i64 iss)),(2,.v (.int .i64 irs)),(5,.p 0 0),(8,.p 1 0),(10,.p 2 0),(11,.v (.int .i64 (0 * 2 ^ (max 0 o.scale).toNat)))] (by kernel_rfl) ?_
  refine xw_seq ?_
  refine xe_region [true,true,false] (by kernel_rfl) (fun ρ σ => ?_)
  refine xe_tkS [0,1,4,7,8,9] [34,33,32,29,26,25,10] 6 [(34,.v (.agg (optL o).toArray)),(33,.v (.int .i64 (0 * 2 ^ (max 0 o.scale).toNat))),(32,.v (.int .i64 (0 * 2 ^ (max 0 o.scale).toNat))),(29,.v (.int .i64 irs)),(26,.v (.int .i64 iss)),(25,.v (.agg (tupL t).toArray)),(10,.p 2 0)] (fun _ _ h => h) rfl (by kernel_rfl) ?_
  refine xe_all [2] (by kernel_rfl) (by simp) ?_
  refine xs_call 2 72 [.int .i64 iss,.int .i64 1] (some 27) rfl (by kernel_rfl) rfl (by kernel_rfl) (xc_s fun ww hf => sSeqAdd_c iss 1 ww ) ?_
  intro _
  refine xe_op 3 (.agg #[.int .i64 (seqAdd iss 1),.string (⟨#[]⟩ : ByteArray),.int .i64 0,.bool false,.bool false,.bool false]) _ rfl (by kernel_rfl) (by kernel_rfl) (by kernel_rfl) (fun _ _ h => h) (by kernel_rfl) rfl (fun _ _ ww hA => act_build [(0,.int .i64 (seqAdd iss 1))] hA rfl (by kernel_rfl) (by kernel_rfl) ww) rfl ?_
  refine xe_all [5] (by kernel_rfl) (by simp) ?_
  refine xs_call 5 72 [.int .i64 irs,.int .i64 1] (some 30) rfl (by kernel_rfl) rfl (by kernel_rfl) (xc_s fun ww hf => sSeqAdd_c irs 1 ww ) ?_
  intro _
  refine xe_all [6] (by kernel_rfl) (by simp) ?_
  refine xs_call 6 73 [.int .i64 (seqAdd irs 1)] (some 31) rfl (by kernel_rfl) rfl (by kernel_rfl) (xc_r fun ww hw hf => ysReceiverNew_c (seqAdd irs 1) ww   w.heap.size hw) ?_
  rintro ⟨v6a,v6c⟩
  refine xe_op 10 (.agg #[.int .i64 t.ip,.int .i64 t.port,.int .i64 t.my,.int .i64 1,.int .i64 (seqAdd iss 1),.string (⟨#[]⟩ : ByteArray),.int .i64 0,.bool false,.bool false,.bool false,.int .i64 ((receiverNew (seqAdd irs 1)).next),.string ((receiverNew (seqAdd irs 1)).data),.slice v6a ((receiverNew (seqAdd irs 1)).held.length) v6c,.int .i64 ((receiverNew (seqAdd irs 1)).fin),.bool ((receiverNew (seqAdd irs 1)).done),.int .i64 (0 * 2 ^ (max 0 o.scale).toNat),.int .i64 (0 * 2 ^ (max 0 o.scale).toNat),.int .i64 o.mss,.int .i64 o.scale,.bool o.sack,.bool o.stamp,.int .i64 o.val,.int .i64 o.echo,.int .i64 0,.int .i64 0]) _ rfl (by kernel_rfl) (by kernel_rfl) (by kernel_rfl) (fun _ _ h => h) (by kernel_rfl) rfl (fun _ _ ww hA => act_build [(0,.agg (tupL t).toArray),(1,.int .i64 1),(2,.agg #[.int .i64 (seqAdd iss 1),.string (⟨#[]⟩ : ByteArray),.int .i64 0,.bool false,.bool false,.bool false]),(3,.agg (rcvL (receiverNew (seqAdd irs 1)) (.slice v6a ((receiverNew (seqAdd irs 1)).held.length) v6c)).toArray),(4,.int .i64 (0 * 2 ^ (max 0 o.scale).toNat)),(5,.int .i64 (0 * 2 ^ (max 0 o.scale).toNat)),(6,.agg (optL o).toArray)] hA rfl (by kernel_rfl) (by kernel_rfl) ww) rfl ?_
  refine xe_all [11] (by kernel_rfl) (by simp) ?_
  refine xs_store 11 2 0 [.int .i64 t.ip,.int .i64 t.port,.int .i64 t.my,.int .i64 1,.int .i64 (seqAdd iss 1),.string (⟨#[]⟩ : ByteArray),.int .i64 0,.bool false,.bool false,.bool false,.int .i64 ((receiverNew (seqAdd irs 1)).next),.string ((receiverNew (seqAdd irs 1)).data),.slice v6a ((receiverNew (seqAdd irs 1)).held.length) v6c,.int .i64 ((receiverNew (seqAdd irs 1)).fin),.bool ((receiverNew (seqAdd irs 1)).done),.int .i64 (0 * 2 ^ (max 0 o.scale).toNat),.int .i64 (0 * 2 ^ (max 0 o.scale).toNat),.int .i64 o.mss,.int .i64 o.scale,.bool o.sack,.bool o.stamp,.int .i64 o.val,.int .i64 o.echo,.int .i64 0,.int .i64 0] _ rfl (by kernel_rfl) (by kernel_rfl) (by kernel_rfl) (by kernel_rfl) (by first | exact .inr rfl | exact .inl rfl) (by kernel_rfl) rfl ?_
  refine xe_done (by kernel_rfl) ?_
  refine xw_ret ?_
  have hmod : connNew t iss irs o window = (⟨t,1,⟨seqAdd iss 1,(⟨#[]⟩ : ByteArray),0,false,false,false⟩,(receiverNew (seqAdd irs 1)),0 * 2 ^ (max 0 o.scale).toNat,0 * 2 ^ (max 0 o.scale).toNat,o,0,0⟩) := by first | rfl | (simp [connNew,farW,receiverNew, *]; done) | grind [connNew,farW,receiverNew]
  exact ⟨[.agg #[.int .i64 t.ip,.int .i64 t.port,.int .i64 t.my,.int .i64 1,.int .i64 (seqAdd iss 1),.string (⟨#[]⟩ : ByteArray),.int .i64 0,.bool false,.bool false,.bool false,.int .i64 ((receiverNew (seqAdd irs 1)).next),.string ((receiverNew (seqAdd irs 1)).data),.slice v6a ((receiverNew (seqAdd irs 1)).held.length) v6c,.int .i64 ((receiverNew (seqAdd irs 1)).fin),.bool ((receiverNew (seqAdd irs 1)).done),.int .i64 (0 * 2 ^ (max 0 o.scale).toNat),.int .i64 (0 * 2 ^ (max 0 o.scale).toNat),.int .i64 o.mss,.int .i64 o.scale,.bool o.sack,.bool o.stamp,.int .i64 o.val,.int .i64 o.echo,.int .i64 0,.int .i64 0]],by kernel_rfl,fun w' hb hf ha => by rw [hmod]; exact xr_one ((v6a,v6c)) rfl rfl (ownF_ownF (hf (ownF w.heap.size (.slice v6a ((receiverNew (seqAdd irs 1)).held.length) v6c) 2 ((receiverNew (seqAdd irs 1)).held.map pceCells)) (by simp)) hB) (fun b hb => ownF_lo (hf (ownF w.heap.size (.slice v6a ((receiverNew (seqAdd irs 1)).held.length) v6c) 2 ((receiverNew (seqAdd irs 1)).held.map pceCells)) (by simp)) hb) hb⟩
  have h5n := not_f h5
  have h5nw := wordOk16_bd (by simpa using h5n)
  obtain ⟨h5nw0,h5nw1⟩ := h5nw
  refine xw_skip ?_
  refine xw_seq ?_
  refine xw_region ?_
  refine xl_callS 3 [1,2,5,8,10,19,21] [(1,.v (.int .i64 iss)),(2,.v (.int .i64 irs)),(5,.p 0 0),(8,.p 1 0),(10,.p 2 0),(19,.v (.int .i64 window)),(21,.v (.int .i64 o.scale))] 71 [.int .i64 0,.int .i64 o.scale] (some 22) (by kernel_rfl) rfl (by kernel_rfl) rfl (by kernel_rfl) (xc_s fun ww hf => l1Max_c 0 o.scale ww ) ?_
  intro _
  refine xl_opS 1 [1,2,5,8,10,19,23] [(1,.v (.int .i64 iss)),(2,.v (.int .i64 irs)),(5,.p 0 0),(8,.p 1 0),(10,.p 2 0),(19,.v (.int .i64 window)),(23,.v (.int .u64 (IntKind.u64.wrap (max 0 o.scale))))] (.int .i64 (IntKind.i64.wrap (window * 2 ^ (IntKind.u64.wrap (max 0 o.scale)).toNat))) (by kernel_rfl) rfl (by kernel_rfl) rfl (fun _ _ _ ww hr => act_bin hr.1 rfl (by kernel_rfl) (by kernel_rfl) (shl_run (k' := .u64) (by have e : ((IntKind.i64.bits : Nat) : Int) = 64 := rfl; (try rw [u64_id (by omega) (by omega)]); omega) (by have e : ((IntKind.i64.bits : Nat) : Int) = 64 := rfl; (try rw [u64_id (by omega) (by omega)]); omega) ww)) ?_
  refine xl_runS 1 [1,2,5,8,10,11] [(1,.v (.int .i64 iss)),(2,.v (.int .i64 irs)),(5,.p 0 0),(8,.p 1 0),(10,.p 2 0),(11,.v (.int .i64 (IntKind.i64.wrap (window * 2 ^ (IntKind.u64.wrap (max 0 o.scale)).toNat))))] (by kernel_rfl) ?_
  refine xl_eqS (t' := [(1,.v (.int .i64 iss)),(2,.v (.int .i64 irs)),(5,.p 0 0),(8,.p 1 0),(10,.p 2 0),(11,.v (.int .i64 (window * 2 ^ (max 0 o.scale).toNat)))]) (by rw [show (IntKind.u64.wrap (max 0 o.scale)) = (max 0 o.scale) from u64_id (by omega) (by omega),show (IntKind.i64.wrap (window * 2 ^ (max 0 o.scale).toNat)) = (window * 2 ^ (max 0 o.scale).toNat) from far_wrap (by omega) (by omega) (by omega) (by omega)]) ?_
  refine xl_endS [1,2,5,8,10,11] [(1,.v (.int .i64 iss)),(2,.v (.int .i64 irs)),(5,.p 0 0),(8,.p 1 0),(10,.p 2 0),(11,.v (.int .i64 (window * 2 ^ (max 0 o.scale).toNat)))] (by kernel_rfl) ?_
  refine xw_seq ?_
  refine xe_region [true,true,false] (by kernel_rfl) (fun ρ σ => ?_)
  refine xe_tkS [0,1,4,7,8,9] [34,33,32,29,26,25,10] 6 [(34,.v (.agg (optL o).toArray)),(33,.v (.int .i64 (window * 2 ^ (max 0 o.scale).toNat))),(32,.v (.int .i64 (window * 2 ^ (max 0 o.scale).toNat))),(29,.v (.int .i64 irs)),(26,.v (.int .i64 iss)),(25,.v (.agg (tupL t).toArray)),(10,.p 2 0)] (fun _ _ h => h) rfl (by kernel_rfl) ?_
  refine xe_all [2] (by kernel_rfl) (by simp) ?_
  refine xs_call 2 72 [.int .i64 iss,.int .i64 1] (some 27) rfl (by kernel_rfl) rfl (by kernel_rfl) (xc_s fun ww hf => sSeqAdd_c iss 1 ww ) ?_
  intro _
  refine xe_op 3 (.agg #[.int .i64 (seqAdd iss 1),.string (⟨#[]⟩ : ByteArray),.int .i64 0,.bool false,.bool false,.bool false]) _ rfl (by kernel_rfl) (by kernel_rfl) (by kernel_rfl) (fun _ _ h => h) (by kernel_rfl) rfl (fun _ _ ww hA => act_build [(0,.int .i64 (seqAdd iss 1))] hA rfl (by kernel_rfl) (by kernel_rfl) ww) rfl ?_
  refine xe_all [5] (by kernel_rfl) (by simp) ?_
  refine xs_call 5 72 [.int .i64 irs,.int .i64 1] (some 30) rfl (by kernel_rfl) rfl (by kernel_rfl) (xc_s fun ww hf => sSeqAdd_c irs 1 ww ) ?_
  intro _
  refine xe_all [6] (by kernel_rfl) (by simp) ?_
  refine xs_call 6 73 [.int .i64 (seqAdd irs 1)] (some 31) rfl (by kernel_rfl) rfl (by kernel_rfl) (xc_r fun ww hw hf => ysReceiverNew_c (seqAdd irs 1) ww   w.heap.size hw) ?_
  rintro ⟨v7a,v7c⟩
  refine xe_op 10 (.agg #[.int .i64 t.ip,.int .i64 t.port,.int .i64 t.my,.int .i64 1,.int .i64 (seqAdd iss 1),.string (⟨#[]⟩ : ByteArray),.int .i64 0,.bool false,.bool false,.bool false,.int .i64 ((receiverNew (seqAdd irs 1)).next),.string ((receiverNew (seqAdd irs 1)).data),.slice v7a ((receiverNew (seqAdd irs 1)).held.length) v7c,.int .i64 ((receiverNew (seqAdd irs 1)).fin),.bool ((receiverNew (seqAdd irs 1)).done),.int .i64 (window * 2 ^ (max 0 o.scale).toNat),.int .i64 (window * 2 ^ (max 0 o.scale).toNat),.int .i64 o.mss,.int .i64 o.scale,.bool o.sack,.bool o.stamp,.int .i64 o.val,.int .i64 o.echo,.int .i64 0,.int .i64 0]) _ rfl (by kernel_rfl) (by kernel_rfl) (by kernel_rfl) (fun _ _ h => h) (by kernel_rfl) rfl (fun _ _ ww hA => act_build [(0,.agg (tupL t).toArray),(1,.int .i64 1),(2,.agg #[.int .i64 (seqAdd iss 1),.string (⟨#[]⟩ : ByteArray),.int .i64 0,.bool false,.bool false,.bool false]),(3,.agg (rcvL (receiverNew (seqAdd irs 1)) (.slice v7a ((receiverNew (seqAdd irs 1)).held.length) v7c)).toArray),(4,.int .i64 (window * 2 ^ (max 0 o.scale).toNat)),(5,.int .i64 (window * 2 ^ (max 0 o.scale).toNat)),(6,.agg (optL o).toArray)] hA rfl (by kernel_rfl) (by kernel_rfl) ww) rfl ?_
  refine xe_all [11] (by kernel_rfl) (by simp) ?_
  refine xs_store 11 2 0 [.int .i64 t.ip,.int .i64 t.port,.int .i64 t.my,.int .i64 1,.int .i64 (seqAdd iss 1),.string (⟨#[]⟩ : ByteArray),.int .i64 0,.bool false,.bool false,.bool false,.int .i64 ((receiverNew (seqAdd irs 1)).next),.string ((receiverNew (seqAdd irs 1)).data),.slice v7a ((receiverNew (seqAdd irs 1)).held.length) v7c,.int .i64 ((receiverNew (seqAdd irs 1)).fin),.bool ((receiverNew (seqAdd irs 1)).done),.int .i64 (window * 2 ^ (max 0 o.scale).toNat),.int .i64 (window * 2 ^ (max 0 o.scale).toNat),.int .i64 o.mss,.int .i64 o.scale,.bool o.sack,.bool o.stamp,.int .i64 o.val,.int .i64 o.echo,.int .i64 0,.int .i64 0] _ rfl (by kernel_rfl) (by kernel_rfl) (by kernel_rfl) (by kernel_rfl) (by first | exact .inr rfl | exact .inl rfl) (by kernel_rfl) rfl ?_
  refine xe_done (by kernel_rfl) ?_
  refine xw_ret ?_
  have hmod : connNew t iss irs o window = (⟨t,1,⟨seqAdd iss 1,(⟨#[]⟩ : ByteArray),0,false,false,false⟩,(receiverNew (seqAdd irs 1)),window * 2 ^ (max 0 o.scale).toNat,window * 2 ^ (max 0 o.scale).toNat,o,0,0⟩) := by first | rfl | (simp [connNew,farW,receiverNew, *]; done) | grind [connNew,farW,receiverNew]
  exact ⟨[.agg #[.int .i64 t.ip,.int .i64 t.port,.int .i64 t.my,.int .i64 1,.int .i64 (seqAdd iss 1),.string (⟨#[]⟩ : ByteArray),.int .i64 0,.bool false,.bool false,.bool false,.int .i64 ((receiverNew (seqAdd irs 1)).next),.string ((receiverNew (seqAdd irs 1)).data),.slice v7a ((receiverNew (seqAdd irs 1)).held.length) v7c,.int .i64 ((receiverNew (seqAdd irs 1)).fin),.bool ((receiverNew (seqAdd irs 1)).done),.int .i64 (window * 2 ^ (max 0 o.scale).toNat),.int .i64 (window * 2 ^ (max 0 o.scale).toNat),.int .i64 o.mss,.int .i64 o.scale,.bool o.sack,.bool o.stamp,.int .i64 o.val,.int .i64 o.echo,.int .i64 0,.int .i64 0]],by kernel_rfl,fun w' hb hf ha => by rw [hmod]; exact xr_one ((v7a,v7c)) rfl rfl (ownF_ownF (hf (ownF w.heap.size (.slice v7a ((receiverNew (seqAdd irs 1)).held.length) v7c) 2 ((receiverNew (seqAdd irs 1)).held.map pceCells)) (by simp)) hB) (fun b hb => ownF_lo (hf (ownF w.heap.size (.slice v7a ((receiverNew (seqAdd irs 1)).held.length) v7c) 2 ((receiverNew (seqAdd irs 1)).held.map pceCells)) (by simp)) hb) hb⟩
set_option maxHeartbeats 1000000 in
theorem yiReceiverNew_c (n : Int) (w : World)  (B : Nat) (hB : B ≤ w.heap.size) : Calls Try.prog 79 #[.int .i64 n] w fun e w' => XRs w w' e (α := Option Addr × Nat) (fun y => .agg (rcvL (receiverNew n) (.slice y.1 ((receiverNew n).held.length) y.2)).toArray) (fun y => [ownF B (.slice y.1 ((receiverNew n).held.length) y.2) 2 ((receiverNew n).held.map pceCells)]) := by
  refine x_callsA (args := [.int .i64 n]) (fn := Try.f79) [] Try.func79 rfl Try.ntmps79 rfl (by simp) ?_
  refine xw_seq ?_
  refine xw_region ?_
  refine xl_end [0,2] ⟨[(0,.v (.int .i64 n)),(2,.p 0 0)],[⟨49,rcvZ⟩],[],[]⟩ (by kernel_rfl) ?_
  refine xw_seq ?_
  refine xw_region ?_
  refine xl_callS 1 [2,3] [(2,.p 0 0),(3,.v (.int .i64 n))] 78 [.int .i64 n,.int .i64 0] (some 4) (by kernel_rfl) rfl (by kernel_rfl) rfl (by kernel_rfl) (xc_s fun ww hf => iSeqAdd_c n 0 ww ) ?_
  intro _
  refine xl_opS 0 [2,4] [(2,.p 0 0),(4,.v (.int .i64 (seqAdd n 0)))] (.agg #[.int .i64 (seqAdd n 0),.string (⟨#[]⟩ : ByteArray),.slice none 0 0,.int .i64 (-1),.bool false]) (by kernel_rfl) rfl (by kernel_rfl) rfl (fun _ _ _ ww hr => act_build [(0,.int .i64 (seqAdd n 0)),(3,.int .i64 (-1))] hr.1 rfl (by kernel_rfl) (by kernel_rfl) ww) ?_
  refine xl_end [2] ⟨[(2,.p 0 0)],[⟨49,[.int .i64 (seqAdd n 0),.string (⟨#[]⟩ : ByteArray),.slice none 0 0,.int .i64 (-1),.bool false]⟩],[],[]⟩ (by kernel_rfl) ?_
  refine xw_ret ?_
  have hmod : receiverNew n = (⟨seqAdd n 0,(⟨#[]⟩ : ByteArray),[],(-1),false⟩) := by first | rfl | (simp [receiverNew,seqAdd]; done)
  exact ⟨[.agg #[.int .i64 (seqAdd n 0),.string (⟨#[]⟩ : ByteArray),.slice none 0 0,.int .i64 (-1),.bool false]],by kernel_rfl,fun w' hb hf ha => by rw [hmod]; exact xr_one ((none,0)) rfl rfl (.inl ⟨rfl,_,rfl⟩) (fun b hb => (hb.1 rfl).elim) hb⟩
set_option maxHeartbeats 1000000 in
theorem yiConnNew_c (t : Tup) (iss : Int) (irs : Int) (o : Opt) (window : Int) (w : World)  (B : Nat) (hB : B ≤ w.heap.size) : Calls Try.prog 27 #[.agg (tupL t).toArray, .int .i64 iss, .int .i64 irs, .agg (optL o).toArray, .int .i64 window] w fun e w' => XRs w w' e (α := Option Addr × Nat) (fun y => .agg (conL (connNew t iss irs o window) (.slice y.1 ((connNew t iss irs o window).r.held.length) y.2)).toArray) (fun y => [ownF B (.slice y.1 ((connNew t iss irs o window).r.held.length) y.2) 2 ((connNew t iss irs o window).r.held.map pceCells)]) := by
  refine x_callsA (args := [.agg (tupL t).toArray,.int .i64 iss,.int .i64 irs,.agg (optL o).toArray,.int .i64 window]) (fn := Try.f27) [] Try.func27 rfl Try.ntmps27 rfl (by simp) ?_
  refine xw_seq ?_
  refine xw_region ?_
  refine xl_end [1,2,4,5,8,10] ⟨[(1,.v (.int .i64 iss)),(2,.v (.int .i64 irs)),(4,.v (.int .i64 window)),(5,.p 0 0),(8,.p 1 0),(10,.p 2 0)],[⟨29,tupL t⟩,⟨40,optL o⟩,⟨51,conZ⟩],[],[]⟩ (by kernel_rfl) ?_
  refine xw_seq ?_
  refine xw_seq ?_
  refine xw_region ?_
  refine xl_callS 1 [1,2,4,5,8,10,12] [(1,.v (.int .i64 iss)),(2,.v (.int .i64 irs)),(4,.v (.int .i64 window)),(5,.p 0 0),(8,.p 1 0),(10,.p 2 0),(12,.v (.agg (optL o).toArray))] 74 [.agg (optL o).toArray] (some 13) (by kernel_rfl) rfl (by kernel_rfl) rfl (by kernel_rfl) (xc_b fun ww hf => iOptionsOk_c o.mss o.scale o.sack o.stamp o.val o.echo ww ) ?_
  intro _
  refine xl_endS [1,2,4,5,8,10,14] [(1,.v (.int .i64 iss)),(2,.v (.int .i64 irs)),(4,.v (.int .i64 window)),(5,.p 0 0),(8,.p 1 0),(10,.p 2 0),(14,.v (.bool (!(optionsOk o))))] (by kernel_rfl) ?_
  refine xw_cond (b := !(optionsOk o)) (by kernel_rfl) (fun h1 => ?_) (fun h1 => ?_)
  have h1n := not_t h1
  refine xw_region ?_
  refine xl_callS 0 [1,2,4,5,8,10] [(1,.v (.int .i64 iss)),(2,.v (.int .i64 irs)),(4,.v (.int .i64 window)),(5,.p 0 0),(8,.p 1 0),(10,.p 2 0)] 75 [] (some 15) (by kernel_rfl) rfl (by kernel_rfl) rfl (by kernel_rfl) (xc_b fun ww hf => iNoOptions_c  ww ) ?_
  intro _
  refine xl_end [1,2,4,5,8,10] ⟨[(1,.v (.int .i64 iss)),(2,.v (.int .i64 irs)),(4,.v (.int .i64 window)),(5,.p 0 0),(8,.p 1 0),(10,.p 2 0)],[⟨29,tupL t⟩,⟨40,[.int .i64 0,.int .i64 (-1),.bool false,.bool false,.int .i64 0,.int .i64 0]⟩,⟨51,conZ⟩],[],[]⟩ (by kernel_rfl) ?_
  refine xw_seq ?_
  refine xw_seq ?_
  refine xw_region ?_
  refine xl_callS 1 [1,2,4,5,8,10,16] [(1,.v (.int .i64 iss)),(2,.v (.int .i64 irs)),(4,.v (.int .i64 window)),(5,.p 0 0),(8,.p 1 0),(10,.p 2 0),(16,.v (.int .i64 window))] 76 [.int .i64 window,.int .i64 16] (some 17) (by kernel_rfl) rfl (by kernel_rfl) rfl (by kernel_rfl) (xc_s fun ww hf => iWordOk16_c window ww) ?_
  intro _
  refine xl_endS [1,2,4,5,8,10,18] [(1,.v (.int .i64 iss)),(2,.v (.int .i64 irs)),(4,.v (.int .i64 window)),(5,.p 0 0),(8,.p 1 0),(10,.p 2 0),(18,.v (.bool (!(wordOk window 16))))] (by kernel_rfl) ?_
  refine xw_cond (b := !(wordOk window 16)) (by kernel_rfl) (fun h2 => ?_) (fun h2 => ?_)
  have h2n := not_t h2
  refine xw_region ?_
  refine xl_endS [1,2,4,5,8,10] [(1,.v (.int .i64 iss)),(2,.v (.int .i64 irs)),(4,.v (.int .i64 0)),(5,.p 0 0),(8,.p 1 0),(10,.p 2 0)] (by kernel_rfl) ?_
  refine xw_seq ?_
  refine xw_region ?_
  refine xl_callS 2 [1,2,5,8,10,19,20] [(1,.v (.int .i64 iss)),(2,.v (.int .i64 irs)),(5,.p 0 0),(8,.p 1 0),(10,.p 2 0),(19,.v (.int .i64 0)),(20,.v (.agg #[.int .i64 0,.int .i64 (-1),.bool false,.bool false,.int .i64 0,.int .i64 0]))] 77 [.int .i64 0,.agg #[.int .i64 0,.int .i64 (-1),.bool false,.bool false,.int .i64 0,.int .i64 0]] (some 21) (by kernel_rfl) rfl (by kernel_rfl) rfl (by kernel_rfl) (xc_b fun ww hf => yiscaled_c 0 (⟨0,(-1),false,false,0,0⟩) ww  (by omega) (by (try dsimp only); omega)) ?_
  intro _
  refine xl_endS [1,2,5,8,10,11] [(1,.v (.int .i64 iss)),(2,.v (.int .i64 irs)),(5,.p 0 0),(8,.p 1 0),(10,.p 2 0),(11,.v (.int .i64 (farW 0 (⟨0,(-1),false,false,0,0⟩))))] (by kernel_rfl) ?_
  refine xw_seq ?_
  refine xe_region [true,true,false] (by kernel_rfl) (fun ρ σ => ?_)
  refine xe_tkS [0,1,4,7,8,9] [31,30,29,26,23,22,10] 6 [(31,.v (.agg #[.int .i64 0,.int .i64 (-1),.bool false,.bool false,.int .i64 0,.int .i64 0])),(30,.v (.int .i64 (farW 0 (⟨0,(-1),false,false,0,0⟩)))),(29,.v (.int .i64 (farW 0 (⟨0,(-1),false,false,0,0⟩)))),(26,.v (.int .i64 irs)),(23,.v (.int .i64 iss)),(22,.v (.agg (tupL t).toArray)),(10,.p 2 0)] (fun _ _ h => h) rfl (by kernel_rfl) ?_
  refine xe_all [2] (by kernel_rfl) (by simp) ?_
  refine xs_call 2 78 [.int .i64 iss,.int .i64 1] (some 24) rfl (by kernel_rfl) rfl (by kernel_rfl) (xc_s fun ww hf => iSeqAdd_c iss 1 ww ) ?_
  intro _
  refine xe_op 3 (.agg #[.int .i64 (seqAdd iss 1),.string (⟨#[]⟩ : ByteArray),.int .i64 0,.bool false,.bool false,.bool false]) _ rfl (by kernel_rfl) (by kernel_rfl) (by kernel_rfl) (fun _ _ h => h) (by kernel_rfl) rfl (fun _ _ ww hA => act_build [(0,.int .i64 (seqAdd iss 1))] hA rfl (by kernel_rfl) (by kernel_rfl) ww) rfl ?_
  refine xe_all [5] (by kernel_rfl) (by simp) ?_
  refine xs_call 5 78 [.int .i64 irs,.int .i64 1] (some 27) rfl (by kernel_rfl) rfl (by kernel_rfl) (xc_s fun ww hf => iSeqAdd_c irs 1 ww ) ?_
  intro _
  refine xe_all [6] (by kernel_rfl) (by simp) ?_
  refine xs_call 6 79 [.int .i64 (seqAdd irs 1)] (some 28) rfl (by kernel_rfl) rfl (by kernel_rfl) (xc_r fun ww hw hf => yiReceiverNew_c (seqAdd irs 1) ww   w.heap.size hw) ?_
  rintro ⟨v3a,v3c⟩
  refine xe_op 10 (.agg #[.int .i64 t.ip,.int .i64 t.port,.int .i64 t.my,.int .i64 1,.int .i64 (seqAdd iss 1),.string (⟨#[]⟩ : ByteArray),.int .i64 0,.bool false,.bool false,.bool false,.int .i64 ((receiverNew (seqAdd irs 1)).next),.string ((receiverNew (seqAdd irs 1)).data),.slice v3a ((receiverNew (seqAdd irs 1)).held.length) v3c,.int .i64 ((receiverNew (seqAdd irs 1)).fin),.bool ((receiverNew (seqAdd irs 1)).done),.int .i64 (farW 0 (⟨0,(-1),false,false,0,0⟩)),.int .i64 (farW 0 (⟨0,(-1),false,false,0,0⟩)),.int .i64 0,.int .i64 (-1),.bool false,.bool false,.int .i64 0,.int .i64 0,.int .i64 0,.int .i64 0]) _ rfl (by kernel_rfl) (by kernel_rfl) (by kernel_rfl) (fun _ _ h => h) (by kernel_rfl) rfl (fun _ _ ww hA => act_build [(0,.agg (tupL t).toArray),(1,.int .i64 1),(2,.agg #[.int .i64 (seqAdd iss 1),.string (⟨#[]⟩ : ByteArray),.int .i64 0,.bool false,.bool false,.bool false]),(3,.agg (rcvL (receiverNew (seqAdd irs 1)) (.slice v3a ((receiverNew (seqAdd irs 1)).held.length) v3c)).toArray),(4,.int .i64 (farW 0 (⟨0,(-1),false,false,0,0⟩))),(5,.int .i64 (farW 0 (⟨0,(-1),false,false,0,0⟩))),(6,.agg #[.int .i64 0,.int .i64 (-1),.bool false,.bool false,.int .i64 0,.int .i64 0])] hA rfl (by kernel_rfl) (by kernel_rfl) ww) rfl ?_
  refine xe_all [11] (by kernel_rfl) (by simp) ?_
  refine xs_store 11 2 0 [.int .i64 t.ip,.int .i64 t.port,.int .i64 t.my,.int .i64 1,.int .i64 (seqAdd iss 1),.string (⟨#[]⟩ : ByteArray),.int .i64 0,.bool false,.bool false,.bool false,.int .i64 ((receiverNew (seqAdd irs 1)).next),.string ((receiverNew (seqAdd irs 1)).data),.slice v3a ((receiverNew (seqAdd irs 1)).held.length) v3c,.int .i64 ((receiverNew (seqAdd irs 1)).fin),.bool ((receiverNew (seqAdd irs 1)).done),.int .i64 (farW 0 (⟨0,(-1),false,false,0,0⟩)),.int .i64 (farW 0 (⟨0,(-1),false,false,0,0⟩)),.int .i64 0,.int .i64 (-1),.bool false,.bool false,.int .i64 0,.int .i64 0,.int .i64 0,.int .i64 0] _ rfl (by kernel_rfl) (by kernel_rfl) (by kernel_rfl) (by kernel_rfl) (by first | exact .inr rfl | exact .inl rfl) (by kernel_rfl) rfl ?_
  refine xe_done (by kernel_rfl) ?_
  refine xw_ret ?_
  have hmod : connNew t iss irs o window = (⟨t,1,⟨seqAdd iss 1,(⟨#[]⟩ : ByteArray),0,false,false,false⟩,(receiverNew (seqAdd irs 1)),(farW 0 (⟨0,(-1),false,false,0,0⟩)),(farW 0 (⟨0,(-1),false,false,0,0⟩)),⟨0,(-1),false,false,0,0⟩,0,0⟩) := by first | rfl | (simp [connNew,farW,receiverNew, *]; done) | grind [connNew,farW,receiverNew]
  exact ⟨[.agg #[.int .i64 t.ip,.int .i64 t.port,.int .i64 t.my,.int .i64 1,.int .i64 (seqAdd iss 1),.string (⟨#[]⟩ : ByteArray),.int .i64 0,.bool false,.bool false,.bool false,.int .i64 ((receiverNew (seqAdd irs 1)).next),.string ((receiverNew (seqAdd irs 1)).data),.slice v3a ((receiverNew (seqAdd irs 1)).held.length) v3c,.int .i64 ((receiverNew (seqAdd irs 1)).fin),.bool ((receiverNew (seqAdd irs 1)).done),.int .i64 (farW 0 (⟨0,(-1),false,false,0,0⟩)),.int .i64 (farW 0 (⟨0,(-1),false,false,0,0⟩)),.int .i64 0,.int .i64 (-1),.bool false,.bool false,.int .i64 0,.int .i64 0,.int .i64 0,.int .i64 0]],by kernel_rfl,fun w' hb hf ha => by rw [hmod]; exact xr_one ((v3a,v3c)) rfl rfl (ownF_ownF (hf (ownF w.heap.size (.slice v3a ((receiverNew (seqAdd irs 1)).held.length) v3c) 2 ((receiverNew (seqAdd irs 1)).held.map pceCells)) (by simp)) hB) (fun b hb => ownF_lo (hf (ownF w.heap.size (.slice v3a ((receiverNew (seqAdd irs 1)).held.length) v3c) 2 ((receiverNew (seqAdd irs 1)).held.map pceCells)) (by simp)) hb) hb⟩
  have h2n := not_f h2
  have h2nw := wordOk16_bd (by simpa using h2n)
  obtain ⟨h2nw0,h2nw1⟩ := h2nw
  refine xw_skip ?_
  refine xw_seq ?_
  refine xw_region ?_
  refine xl_callS 2 [1,2,5,8,10,19,20] [(1,.v (.int .i64 iss)),(2,.v (.int .i64 irs)),(5,.p 0 0),(8,.p 1 0),(10,.p 2 0),(19,.v (.int .i64 window)),(20,.v (.agg #[.int .i64 0,.int .i64 (-1),.bool false,.bool false,.int .i64 0,.int .i64 0]))] 77 [.int .i64 window,.agg #[.int .i64 0,.int .i64 (-1),.bool false,.bool false,.int .i64 0,.int .i64 0]] (some 21) (by kernel_rfl) rfl (by kernel_rfl) rfl (by kernel_rfl) (xc_b fun ww hf => yiscaled_c window (⟨0,(-1),false,false,0,0⟩) ww  (by omega) (by (try dsimp only); omega)) ?_
  intro _
  refine xl_endS [1,2,5,8,10,11] [(1,.v (.int .i64 iss)),(2,.v (.int .i64 irs)),(5,.p 0 0),(8,.p 1 0),(10,.p 2 0),(11,.v (.int .i64 (farW window (⟨0,(-1),false,false,0,0⟩))))] (by kernel_rfl) ?_
  refine xw_seq ?_
  refine xe_region [true,true,false] (by kernel_rfl) (fun ρ σ => ?_)
  refine xe_tkS [0,1,4,7,8,9] [31,30,29,26,23,22,10] 6 [(31,.v (.agg #[.int .i64 0,.int .i64 (-1),.bool false,.bool false,.int .i64 0,.int .i64 0])),(30,.v (.int .i64 (farW window (⟨0,(-1),false,false,0,0⟩)))),(29,.v (.int .i64 (farW window (⟨0,(-1),false,false,0,0⟩)))),(26,.v (.int .i64 irs)),(23,.v (.int .i64 iss)),(22,.v (.agg (tupL t).toArray)),(10,.p 2 0)] (fun _ _ h => h) rfl (by kernel_rfl) ?_
  refine xe_all [2] (by kernel_rfl) (by simp) ?_
  refine xs_call 2 78 [.int .i64 iss,.int .i64 1] (some 24) rfl (by kernel_rfl) rfl (by kernel_rfl) (xc_s fun ww hf => iSeqAdd_c iss 1 ww ) ?_
  intro _
  refine xe_op 3 (.agg #[.int .i64 (seqAdd iss 1),.string (⟨#[]⟩ : ByteArray),.int .i64 0,.bool false,.bool false,.bool false]) _ rfl (by kernel_rfl) (by kernel_rfl) (by kernel_rfl) (fun _ _ h => h) (by kernel_rfl) rfl (fun _ _ ww hA => act_build [(0,.int .i64 (seqAdd iss 1))] hA rfl (by kernel_rfl) (by kernel_rfl) ww) rfl ?_
  refine xe_all [5] (by kernel_rfl) (by simp) ?_
  refine xs_call 5 78 [.int .i64 irs,.int .i64 1] (some 27) rfl (by kernel_rfl) rfl (by kernel_rfl) (xc_s fun ww hf => iSeqAdd_c irs 1 ww ) ?_
  intro _
  refine xe_all [6] (by kernel_rfl) (by simp) ?_
  refine xs_call 6 79 [.int .i64 (seqAdd irs 1)] (some 28) rfl (by kernel_rfl) rfl (by kernel_rfl) (xc_r fun ww hw hf => yiReceiverNew_c (seqAdd irs 1) ww   w.heap.size hw) ?_
  rintro ⟨v4a,v4c⟩
  refine xe_op 10 (.agg #[.int .i64 t.ip,.int .i64 t.port,.int .i64 t.my,.int .i64 1,.int .i64 (seqAdd iss 1),.string (⟨#[]⟩ : ByteArray),.int .i64 0,.bool false,.bool false,.bool false,.int .i64 ((receiverNew (seqAdd irs 1)).next),.string ((receiverNew (seqAdd irs 1)).data),.slice v4a ((receiverNew (seqAdd irs 1)).held.length) v4c,.int .i64 ((receiverNew (seqAdd irs 1)).fin),.bool ((receiverNew (seqAdd irs 1)).done),.int .i64 (farW window (⟨0,(-1),false,false,0,0⟩)),.int .i64 (farW window (⟨0,(-1),false,false,0,0⟩)),.int .i64 0,.int .i64 (-1),.bool false,.bool false,.int .i64 0,.int .i64 0,.int .i64 0,.int .i64 0]) _ rfl (by kernel_rfl) (by kernel_rfl) (by kernel_rfl) (fun _ _ h => h) (by kernel_rfl) rfl (fun _ _ ww hA => act_build [(0,.agg (tupL t).toArray),(1,.int .i64 1),(2,.agg #[.int .i64 (seqAdd iss 1),.string (⟨#[]⟩ : ByteArray),.int .i64 0,.bool false,.bool false,.bool false]),(3,.agg (rcvL (receiverNew (seqAdd irs 1)) (.slice v4a ((receiverNew (seqAdd irs 1)).held.length) v4c)).toArray),(4,.int .i64 (farW window (⟨0,(-1),false,false,0,0⟩))),(5,.int .i64 (farW window (⟨0,(-1),false,false,0,0⟩))),(6,.agg #[.int .i64 0,.int .i64 (-1),.bool false,.bool false,.int .i64 0,.int .i64 0])] hA rfl (by kernel_rfl) (by kernel_rfl) ww) rfl ?_
  refine xe_all [11] (by kernel_rfl) (by simp) ?_
  refine xs_store 11 2 0 [.int .i64 t.ip,.int .i64 t.port,.int .i64 t.my,.int .i64 1,.int .i64 (seqAdd iss 1),.string (⟨#[]⟩ : ByteArray),.int .i64 0,.bool false,.bool false,.bool false,.int .i64 ((receiverNew (seqAdd irs 1)).next),.string ((receiverNew (seqAdd irs 1)).data),.slice v4a ((receiverNew (seqAdd irs 1)).held.length) v4c,.int .i64 ((receiverNew (seqAdd irs 1)).fin),.bool ((receiverNew (seqAdd irs 1)).done),.int .i64 (farW window (⟨0,(-1),false,false,0,0⟩)),.int .i64 (farW window (⟨0,(-1),false,false,0,0⟩)),.int .i64 0,.int .i64 (-1),.bool false,.bool false,.int .i64 0,.int .i64 0,.int .i64 0,.int .i64 0] _ rfl (by kernel_rfl) (by kernel_rfl) (by kernel_rfl) (by kernel_rfl) (by first | exact .inr rfl | exact .inl rfl) (by kernel_rfl) rfl ?_
  refine xe_done (by kernel_rfl) ?_
  refine xw_ret ?_
  have hmod : connNew t iss irs o window = (⟨t,1,⟨seqAdd iss 1,(⟨#[]⟩ : ByteArray),0,false,false,false⟩,(receiverNew (seqAdd irs 1)),(farW window (⟨0,(-1),false,false,0,0⟩)),(farW window (⟨0,(-1),false,false,0,0⟩)),⟨0,(-1),false,false,0,0⟩,0,0⟩) := by first | rfl | (simp [connNew,farW,receiverNew, *]; done) | grind [connNew,farW,receiverNew]
  exact ⟨[.agg #[.int .i64 t.ip,.int .i64 t.port,.int .i64 t.my,.int .i64 1,.int .i64 (seqAdd iss 1),.string (⟨#[]⟩ : ByteArray),.int .i64 0,.bool false,.bool false,.bool false,.int .i64 ((receiverNew (seqAdd irs 1)).next),.string ((receiverNew (seqAdd irs 1)).data),.slice v4a ((receiverNew (seqAdd irs 1)).held.length) v4c,.int .i64 ((receiverNew (seqAdd irs 1)).fin),.bool ((receiverNew (seqAdd irs 1)).done),.int .i64 (farW window (⟨0,(-1),false,false,0,0⟩)),.int .i64 (farW window (⟨0,(-1),false,false,0,0⟩)),.int .i64 0,.int .i64 (-1),.bool false,.bool false,.int .i64 0,.int .i64 0,.int .i64 0,.int .i64 0]],by kernel_rfl,fun w' hb hf ha => by rw [hmod]; exact xr_one ((v4a,v4c)) rfl rfl (ownF_ownF (hf (ownF w.heap.size (.slice v4a ((receiverNew (seqAdd irs 1)).held.length) v4c) 2 ((receiverNew (seqAdd irs 1)).held.map pceCells)) (by simp)) hB) (fun b hb => ownF_lo (hf (ownF w.heap.size (.slice v4a ((receiverNew (seqAdd irs 1)).held.length) v4c) 2 ((receiverNew (seqAdd irs 1)).held.map pceCells)) (by simp)) hb) hb⟩
  have h1n := not_f h1
  have h1nw := optionsOk_bd (by simpa using h1n)
  obtain ⟨h1nw0,h1nw1⟩ := h1nw
  refine xw_skip ?_
  refine xw_seq ?_
  refine xw_seq ?_
  refine xw_region ?_
  refine xl_callS 1 [1,2,4,5,8,10,16] [(1,.v (.int .i64 iss)),(2,.v (.int .i64 irs)),(4,.v (.int .i64 window)),(5,.p 0 0),(8,.p 1 0),(10,.p 2 0),(16,.v (.int .i64 window))] 76 [.int .i64 window,.int .i64 16] (some 17) (by kernel_rfl) rfl (by kernel_rfl) rfl (by kernel_rfl) (xc_s fun ww hf => iWordOk16_c window ww) ?_
  intro _
  refine xl_endS [1,2,4,5,8,10,18] [(1,.v (.int .i64 iss)),(2,.v (.int .i64 irs)),(4,.v (.int .i64 window)),(5,.p 0 0),(8,.p 1 0),(10,.p 2 0),(18,.v (.bool (!(wordOk window 16))))] (by kernel_rfl) ?_
  refine xw_cond (b := !(wordOk window 16)) (by kernel_rfl) (fun h5 => ?_) (fun h5 => ?_)
  have h5n := not_t h5
  refine xw_region ?_
  refine xl_endS [1,2,4,5,8,10] [(1,.v (.int .i64 iss)),(2,.v (.int .i64 irs)),(4,.v (.int .i64 0)),(5,.p 0 0),(8,.p 1 0),(10,.p 2 0)] (by kernel_rfl) ?_
  refine xw_seq ?_
  refine xw_region ?_
  refine xl_callS 2 [1,2,5,8,10,19,20] [(1,.v (.int .i64 iss)),(2,.v (.int .i64 irs)),(5,.p 0 0),(8,.p 1 0),(10,.p 2 0),(19,.v (.int .i64 0)),(20,.v (.agg (optL o).toArray))] 77 [.int .i64 0,.agg (optL o).toArray] (some 21) (by kernel_rfl) rfl (by kernel_rfl) rfl (by kernel_rfl) (xc_b fun ww hf => yiscaled_c 0 o ww  (by omega) (by (try dsimp only); omega)) ?_
  intro _
  refine xl_endS [1,2,5,8,10,11] [(1,.v (.int .i64 iss)),(2,.v (.int .i64 irs)),(5,.p 0 0),(8,.p 1 0),(10,.p 2 0),(11,.v (.int .i64 (farW 0 o)))] (by kernel_rfl) ?_
  refine xw_seq ?_
  refine xe_region [true,true,false] (by kernel_rfl) (fun ρ σ => ?_)
  refine xe_tkS [0,1,4,7,8,9] [31,30,29,26,23,22,10] 6 [(31,.v (.agg (optL o).toArray)),(30,.v (.int .i64 (farW 0 o))),(29,.v (.int .i64 (farW 0 o))),(26,.v (.int .i64 irs)),(23,.v (.int .i64 iss)),(22,.v (.agg (tupL t).toArray)),(10,.p 2 0)] (fun _ _ h => h) rfl (by kernel_rfl) ?_
  refine xe_all [2] (by kernel_rfl) (by simp) ?_
  refine xs_call 2 78 [.int .i64 iss,.int .i64 1] (some 24) rfl (by kernel_rfl) rfl (by kernel_rfl) (xc_s fun ww hf => iSeqAdd_c iss 1 ww ) ?_
  intro _
  refine xe_op 3 (.agg #[.int .i64 (seqAdd iss 1),.string (⟨#[]⟩ : ByteArray),.int .i64 0,.bool false,.bool false,.bool false]) _ rfl (by kernel_rfl) (by kernel_rfl) (by kernel_rfl) (fun _ _ h => h) (by kernel_rfl) rfl (fun _ _ ww hA => act_build [(0,.int .i64 (seqAdd iss 1))] hA rfl (by kernel_rfl) (by kernel_rfl) ww) rfl ?_
  refine xe_all [5] (by kernel_rfl) (by simp) ?_
  refine xs_call 5 78 [.int .i64 irs,.int .i64 1] (some 27) rfl (by kernel_rfl) rfl (by kernel_rfl) (xc_s fun ww hf => iSeqAdd_c irs 1 ww ) ?_
  intro _
  refine xe_all [6] (by kernel_rfl) (by simp) ?_
  refine xs_call 6 79 [.int .i64 (seqAdd irs 1)] (some 28) rfl (by kernel_rfl) rfl (by kernel_rfl) (xc_r fun ww hw hf => yiReceiverNew_c (seqAdd irs 1) ww   w.heap.size hw) ?_
  rintro ⟨v6a,v6c⟩
  refine xe_op 10 (.agg #[.int .i64 t.ip,.int .i64 t.port,.int .i64 t.my,.int .i64 1,.int .i64 (seqAdd iss 1),.string (⟨#[]⟩ : ByteArray),.int .i64 0,.bool false,.bool false,.bool false,.int .i64 ((receiverNew (seqAdd irs 1)).next),.string ((receiverNew (seqAdd irs 1)).data),.slice v6a ((receiverNew (seqAdd irs 1)).held.length) v6c,.int .i64 ((receiverNew (seqAdd irs 1)).fin),.bool ((receiverNew (seqAdd irs 1)).done),.int .i64 (farW 0 o),.int .i64 (farW 0 o),.int .i64 o.mss,.int .i64 o.scale,.bool o.sack,.bool o.stamp,.int .i64 o.val,.int .i64 o.echo,.int .i64 0,.int .i64 0]) _ rfl (by kernel_rfl) (by kernel_rfl) (by kernel_rfl) (fun _ _ h => h) (by kernel_rfl) rfl (fun _ _ ww hA => act_build [(0,.agg (tupL t).toArray),(1,.int .i64 1),(2,.agg #[.int .i64 (seqAdd iss 1),.string (⟨#[]⟩ : ByteArray),.int .i64 0,.bool false,.bool false,.bool false]),(3,.agg (rcvL (receiverNew (seqAdd irs 1)) (.slice v6a ((receiverNew (seqAdd irs 1)).held.length) v6c)).toArray),(4,.int .i64 (farW 0 o)),(5,.int .i64 (farW 0 o)),(6,.agg (optL o).toArray)] hA rfl (by kernel_rfl) (by kernel_rfl) ww) rfl ?_
  refine xe_all [11] (by kernel_rfl) (by simp) ?_
  refine xs_store 11 2 0 [.int .i64 t.ip,.int .i64 t.port,.int .i64 t.my,.int .i64 1,.int .i64 (seqAdd iss 1),.string (⟨#[]⟩ : ByteArray),.int .i64 0,.bool false,.bool false,.bool false,.int .i64 ((receiverNew (seqAdd irs 1)).next),.string ((receiverNew (seqAdd irs 1)).data),.slice v6a ((receiverNew (seqAdd irs 1)).held.length) v6c,.int .i64 ((receiverNew (seqAdd irs 1)).fin),.bool ((receiverNew (seqAdd irs 1)).done),.int .i64 (farW 0 o),.int .i64 (farW 0 o),.int .i64 o.mss,.int .i64 o.scale,.bool o.sack,.bool o.stamp,.int .i64 o.val,.int .i64 o.echo,.int .i64 0,.int .i64 0] _ rfl (by kernel_rfl) (by kernel_rfl) (by kernel_rfl) (by kernel_rfl) (by first | exact .inr rfl | exact .inl rfl) (by kernel_rfl) rfl ?_
  refine xe_done (by kernel_rfl) ?_
  refine xw_ret ?_
  have hmod : connNew t iss irs o window = (⟨t,1,⟨seqAdd iss 1,(⟨#[]⟩ : ByteArray),0,false,false,false⟩,(receiverNew (seqAdd irs 1)),(farW 0 o),(farW 0 o),o,0,0⟩) := by first | rfl | (simp [connNew,farW,receiverNew, *]; done) | grind [connNew,farW,receiverNew]
  exact ⟨[.agg #[.int .i64 t.ip,.int .i64 t.port,.int .i64 t.my,.int .i64 1,.int .i64 (seqAdd iss 1),.string (⟨#[]⟩ : ByteArray),.int .i64 0,.bool false,.bool false,.bool false,.int .i64 ((receiverNew (seqAdd irs 1)).next),.string ((receiverNew (seqAdd irs 1)).data),.slice v6a ((receiverNew (seqAdd irs 1)).held.length) v6c,.int .i64 ((receiverNew (seqAdd irs 1)).fin),.bool ((receiverNew (seqAdd irs 1)).done),.int .i64 (farW 0 o),.int .i64 (farW 0 o),.int .i64 o.mss,.int .i64 o.scale,.bool o.sack,.bool o.stamp,.int .i64 o.val,.int .i64 o.echo,.int .i64 0,.int .i64 0]],by kernel_rfl,fun w' hb hf ha => by rw [hmod]; exact xr_one ((v6a,v6c)) rfl rfl (ownF_ownF (hf (ownF w.heap.size (.slice v6a ((receiverNew (seqAdd irs 1)).held.length) v6c) 2 ((receiverNew (seqAdd irs 1)).held.map pceCells)) (by simp)) hB) (fun b hb => ownF_lo (hf (ownF w.heap.size (.slice v6a ((receiverNew (seqAdd irs 1)).held.length) v6c) 2 ((receiverNew (seqAdd irs 1)).held.map pceCells)) (by simp)) hb) hb⟩
  have h5n := not_f h5
  have h5nw := wordOk16_bd (by simpa using h5n)
  obtain ⟨h5nw0,h5nw1⟩ := h5nw
  refine xw_skip ?_
  refine xw_seq ?_
  refine xw_region ?_
  refine xl_callS 2 [1,2,5,8,10,19,20] [(1,.v (.int .i64 iss)),(2,.v (.int .i64 irs)),(5,.p 0 0),(8,.p 1 0),(10,.p 2 0),(19,.v (.int .i64 window)),(20,.v (.agg (optL o).toArray))] 77 [.int .i64 window,.agg (optL o).toArray] (some 21) (by kernel_rfl) rfl (by kernel_rfl) rfl (by kernel_rfl) (xc_b fun ww hf => yiscaled_c window o ww  (by omega) (by (try dsimp only); omega)) ?_
  intro _
  refine xl_endS [1,2,5,8,10,11] [(1,.v (.int .i64 iss)),(2,.v (.int .i64 irs)),(5,.p 0 0),(8,.p 1 0),(10,.p 2 0),(11,.v (.int .i64 (farW window o)))] (by kernel_rfl) ?_
  refine xw_seq ?_
  refine xe_region [true,true,false] (by kernel_rfl) (fun ρ σ => ?_)
  refine xe_tkS [0,1,4,7,8,9] [31,30,29,26,23,22,10] 6 [(31,.v (.agg (optL o).toArray)),(30,.v (.int .i64 (farW window o))),(29,.v (.int .i64 (farW window o))),(26,.v (.int .i64 irs)),(23,.v (.int .i64 iss)),(22,.v (.agg (tupL t).toArray)),(10,.p 2 0)] (fun _ _ h => h) rfl (by kernel_rfl) ?_
  refine xe_all [2] (by kernel_rfl) (by simp) ?_
  refine xs_call 2 78 [.int .i64 iss,.int .i64 1] (some 24) rfl (by kernel_rfl) rfl (by kernel_rfl) (xc_s fun ww hf => iSeqAdd_c iss 1 ww ) ?_
  intro _
  refine xe_op 3 (.agg #[.int .i64 (seqAdd iss 1),.string (⟨#[]⟩ : ByteArray),.int .i64 0,.bool false,.bool false,.bool false]) _ rfl (by kernel_rfl) (by kernel_rfl) (by kernel_rfl) (fun _ _ h => h) (by kernel_rfl) rfl (fun _ _ ww hA => act_build [(0,.int .i64 (seqAdd iss 1))] hA rfl (by kernel_rfl) (by kernel_rfl) ww) rfl ?_
  refine xe_all [5] (by kernel_rfl) (by simp) ?_
  refine xs_call 5 78 [.int .i64 irs,.int .i64 1] (some 27) rfl (by kernel_rfl) rfl (by kernel_rfl) (xc_s fun ww hf => iSeqAdd_c irs 1 ww ) ?_
  intro _
  refine xe_all [6] (by kernel_rfl) (by simp) ?_
  refine xs_call 6 79 [.int .i64 (seqAdd irs 1)] (some 28) rfl (by kernel_rfl) rfl (by kernel_rfl) (xc_r fun ww hw hf => yiReceiverNew_c (seqAdd irs 1) ww   w.heap.size hw) ?_
  rintro ⟨v7a,v7c⟩
  refine xe_op 10 (.agg #[.int .i64 t.ip,.int .i64 t.port,.int .i64 t.my,.int .i64 1,.int .i64 (seqAdd iss 1),.string (⟨#[]⟩ : ByteArray),.int .i64 0,.bool false,.bool false,.bool false,.int .i64 ((receiverNew (seqAdd irs 1)).next),.string ((receiverNew (seqAdd irs 1)).data),.slice v7a ((receiverNew (seqAdd irs 1)).held.length) v7c,.int .i64 ((receiverNew (seqAdd irs 1)).fin),.bool ((receiverNew (seqAdd irs 1)).done),.int .i64 (farW window o),.int .i64 (farW window o),.int .i64 o.mss,.int .i64 o.scale,.bool o.sack,.bool o.stamp,.int .i64 o.val,.int .i64 o.echo,.int .i64 0,.int .i64 0]) _ rfl (by kernel_rfl) (by kernel_rfl) (by kernel_rfl) (fun _ _ h => h) (by kernel_rfl) rfl (fun _ _ ww hA => act_build [(0,.agg (tupL t).toArray),(1,.int .i64 1),(2,.agg #[.int .i64 (seqAdd iss 1),.string (⟨#[]⟩ : ByteArray),.int .i64 0,.bool false,.bool false,.bool false]),(3,.agg (rcvL (receiverNew (seqAdd irs 1)) (.slice v7a ((receiverNew (seqAdd irs 1)).held.length) v7c)).toArray),(4,.int .i64 (farW window o)),(5,.int .i64 (farW window o)),(6,.agg (optL o).toArray)] hA rfl (by kernel_rfl) (by kernel_rfl) ww) rfl ?_
  refine xe_all [11] (by kernel_rfl) (by simp) ?_
  refine xs_store 11 2 0 [.int .i64 t.ip,.int .i64 t.port,.int .i64 t.my,.int .i64 1,.int .i64 (seqAdd iss 1),.string (⟨#[]⟩ : ByteArray),.int .i64 0,.bool false,.bool false,.bool false,.int .i64 ((receiverNew (seqAdd irs 1)).next),.string ((receiverNew (seqAdd irs 1)).data),.slice v7a ((receiverNew (seqAdd irs 1)).held.length) v7c,.int .i64 ((receiverNew (seqAdd irs 1)).fin),.bool ((receiverNew (seqAdd irs 1)).done),.int .i64 (farW window o),.int .i64 (farW window o),.int .i64 o.mss,.int .i64 o.scale,.bool o.sack,.bool o.stamp,.int .i64 o.val,.int .i64 o.echo,.int .i64 0,.int .i64 0] _ rfl (by kernel_rfl) (by kernel_rfl) (by kernel_rfl) (by kernel_rfl) (by first | exact .inr rfl | exact .inl rfl) (by kernel_rfl) rfl ?_
  refine xe_done (by kernel_rfl) ?_
  refine xw_ret ?_
  have hmod : connNew t iss irs o window = (⟨t,1,⟨seqAdd iss 1,(⟨#[]⟩ : ByteArray),0,false,false,false⟩,(receiverNew (seqAdd irs 1)),(farW window o),(farW window o),o,0,0⟩) := by first | rfl | (simp [connNew,farW,receiverNew, *]; done) | grind [connNew,farW,receiverNew]
  exact ⟨[.agg #[.int .i64 t.ip,.int .i64 t.port,.int .i64 t.my,.int .i64 1,.int .i64 (seqAdd iss 1),.string (⟨#[]⟩ : ByteArray),.int .i64 0,.bool false,.bool false,.bool false,.int .i64 ((receiverNew (seqAdd irs 1)).next),.string ((receiverNew (seqAdd irs 1)).data),.slice v7a ((receiverNew (seqAdd irs 1)).held.length) v7c,.int .i64 ((receiverNew (seqAdd irs 1)).fin),.bool ((receiverNew (seqAdd irs 1)).done),.int .i64 (farW window o),.int .i64 (farW window o),.int .i64 o.mss,.int .i64 o.scale,.bool o.sack,.bool o.stamp,.int .i64 o.val,.int .i64 o.echo,.int .i64 0,.int .i64 0]],by kernel_rfl,fun w' hb hf ha => by rw [hmod]; exact xr_one ((v7a,v7c)) rfl rfl (ownF_ownF (hf (ownF w.heap.size (.slice v7a ((receiverNew (seqAdd irs 1)).held.length) v7c) 2 ((receiverNew (seqAdd irs 1)).held.map pceCells)) (by simp)) hB) (fun b hb => ownF_lo (hf (ownF w.heap.size (.slice v7a ((receiverNew (seqAdd irs 1)).held.length) v7c) 2 ((receiverNew (seqAdd irs 1)).held.map pceCells)) (by simp)) hb) hb⟩
set_option maxHeartbeats 1000000 in
theorem ymarkText_c (k : Int) (w : World) (hk : k ≤ 4611686018427387904) : Calls Try.prog 144 #[.int .i64 k] w fun e w' => e = .returned (.string (markText k)) ∧ Below w.heap.size w w' := by
  refine x_calls (args := [.int .i64 k]) (fn := Try.f144) [] Try.func144 rfl Try.ntmps144 rfl (by simp) ?_
  refine xw_seq ?_
  refine xw_region ?_
  refine xl_end [0] ⟨[(0,.v (.int .i64 k))],[],[],[]⟩ (by kernel_rfl) ?_
  refine xw_seq ?_
  refine xw_seq ?_
  refine xw_region ?_
  refine xl_endS [0,5] [(0,.v (.int .i64 k)),(5,.v (.bool (decide (k ≤ 0))))] (by kernel_rfl) ?_
  refine xw_cond (b := decide (k ≤ 0)) (by kernel_rfl) (fun h1 => ?_) (fun h1 => ?_)
  have h1p : (k ≤ 0) := of_decide_eq_true h1
  refine xw_seq ?_
  refine xw_region ?_
  refine xl_endS [2] [(2,.v (.string (⟨#[109,48]⟩ : ByteArray)))] (by kernel_rfl) ?_
  refine xw_ret ?_
  have hmod : markText k = (⟨#[109,48]⟩ : ByteArray) := by first | rfl | (simp [markText, *]; done) | (rw [markText,if_neg (by omega),hE])
  exact ⟨[.string (⟨#[109,48]⟩ : ByteArray)],by kernel_rfl,fun w' hb hf => by rw [hmod]; exact ⟨rfl,hb⟩⟩
  have h1p : ¬ (k ≤ 0) := of_decide_eq_false h1
  refine xw_skip ?_
  refine xw_seq ?_
  refine xw_region ?_
  refine xl_endS [0,3] [(0,.v (.int .i64 k)),(3,.v (.string (⟨#[]⟩ : ByteArray)))] (by kernel_rfl) ?_
  refine xw_seq ?_
  refine xw_block ?_
  refine xw_loopW (α := {x : Int × ByteArray // (fun (z : Int) (out : ByteArray) => markLoop k (⟨#[]⟩ : ByteArray) = markLoop z out ∧ out.size + z.toNat ≤ k.toNat) x.1 x.2}) (fun x => (fun (z : Int) (out : ByteArray) => (⟨[(0,.v (.int .i64 z)),(3,.v (.string out))],[],[],[]⟩ : St)) x.1.1 x.1.2) (fun x => (fun (z : Int) (out : ByteArray) => z.toNat) x.1.1 x.1.2) ⟨(k,(⟨#[]⟩ : ByteArray)),⟨rfl,Nat.le_of_eq (Nat.zero_add _)⟩⟩ (wk_forget 0 0 [0,3] (by kernel_rfl) (by kernel_rfl) (by kernel_rfl)) ?_
  rintro ⟨⟨z,out⟩,HK,hR⟩
  refine xw_wk (Wk.of_eq (s' := ⟨[(0,.v (.int .i64 z)),(3,.v (.string out))],[],[],[]⟩) rfl) ?_
  try dsimp only at HK hR
  refine xw_seq ?_
  refine xw_seq ?_
  refine xw_region ?_
  refine xl_endS [0,3,7] [(0,.v (.int .i64 z)),(3,.v (.string out)),(7,.v (.bool (decide (z > 0))))] (by kernel_rfl) ?_
  refine xw_cond (b := decide (z > 0)) (by kernel_rfl) (fun h2 => ?_) (fun h2 => ?_)
  have h2p : (z > 0) := of_decide_eq_true h2
  have hz : 0 < z := by simpa using h2
  refine xw_skip ?_
  refine xw_block ?_
  refine xw_seq ?_
  refine xw_region ?_
  refine xl_opS 1 [0,3,8] [(0,.v (.int .i64 z)),(3,.v (.string out)),(8,.v (.int .i64 z))] (.int .i64 (Int.tmod z 10)) (by kernel_rfl) rfl (by kernel_rfl) rfl (fun _ _ _ ww hr => act_bin hr.1 rfl (by kernel_rfl) (by kernel_rfl) (rem_run (by decide) ww)) ?_
  refine xl_hvS 2 [0,3,11] [(0,.v (.int .i64 z)),(3,.v (.string out)),(11,.v (.int .u8 (IntKind.u8.wrap (IntKind.i64.wrap (48 + (Int.tmod z 10))))))] (by kernel_rfl) rfl (by kernel_rfl) rfl (by kernel_rfl) (hv_build (e := 5) (K := 1) (bytes := 1) [.int .u8 (IntKind.u8.wrap (IntKind.i64.wrap (48 + (Int.tmod z 10))))] rfl (by kernel_rfl) (by kernel_rfl) (by kernel_rfl) (by kernel_rfl) (by kernel_rfl) (rs := ([IntKind.u8.wrap (IntKind.i64.wrap (48 + (Int.tmod z 10)))] : List Int).map byteRow) rfl) ?_
  intro g3
  refine xl_opS 0 [0,3,12] [(0,.v (.int .i64 z)),(3,.v (.string out)),(12,.v (.slice (some ⟨g3,0,none⟩) 1 1))] (.string (bstr ([IntKind.u8.wrap (IntKind.i64.wrap (48 + (Int.tmod z 10)))] : List Int))) (by kernel_rfl) rfl (by kernel_rfl) rfl (fun _ _ _ ww hr => act_b2s (e := 5) ([IntKind.u8.wrap (IntKind.i64.wrap (48 + (Int.tmod z 10)))] : List Int) hr.1 rfl (by kernel_rfl) (by kernel_rfl) (by kernel_rfl) rfl (rowF_sl (hr.2.fact (rowF w.heap.size 5 1 (.slice (some ⟨g3,0,none⟩) 1 1) (([IntKind.u8.wrap (IntKind.i64.wrap (48 + (Int.tmod z 10)))] : List Int).map byteRow)) (by simp)).1)) ?_
  refine xl_opS 1 [0,3,13,14] [(0,.v (.int .i64 z)),(3,.v (.string out)),(13,.v (.string (bstr ([IntKind.u8.wrap (IntKind.i64.wrap (48 + (Int.tmod z 10)))] : List Int)))),(14,.v (.string out))] (.string ((bstr ([IntKind.u8.wrap (IntKind.i64.wrap (48 + (Int.tmod z 10)))] : List Int)) ++ out)) (by kernel_rfl) rfl (by kernel_rfl) rfl (fun _ _ _ ww hr => act_bin hr.1 rfl (by kernel_rfl) (by kernel_rfl) (str_add (mark_sz hz hR hk) ww)) ?_
  refine xl_runS 1 [0,3] [(0,.v (.int .i64 z)),(3,.v (.string ((bstr ([IntKind.u8.wrap (IntKind.i64.wrap (48 + (Int.tmod z 10)))] : List Int)) ++ out)))] (by kernel_rfl) ?_
  refine xl_eq (st' := ⟨[(0,.v (.int .i64 z)),(3,.v (.string ((bstr ([IntKind.u8.wrap (48 + z.tmod 10)] : List Int)) ++ out)))],[],[],[rowF w.heap.size 5 1 (.slice (some ⟨g3,0,none⟩) 1 1) (([IntKind.u8.wrap (48 + z.tmod 10)] : List Int).map byteRow)]⟩) (by rw [show (IntKind.i64.wrap (48 + (Int.tmod z 10))) = (48 + z.tmod 10) from wrap_tmod hz]) ?_
  refine xl_endS [0,3] [(0,.v (.int .i64 z)),(3,.v (.string ((bstr ([IntKind.u8.wrap (48 + z.tmod 10)] : List Int)) ++ out)))] (by kernel_rfl) ?_
  refine xw_region ?_
  refine xl_opS 1 [0,3,16] [(0,.v (.int .i64 z)),(3,.v (.string ((bstr ([IntKind.u8.wrap (48 + z.tmod 10)] : List Int)) ++ out))),(16,.v (.int .i64 z))] (.int .i64 (IntKind.i64.wrap (Int.tdiv z 10))) (by kernel_rfl) rfl (by kernel_rfl) rfl (fun _ _ _ ww hr => act_bin hr.1 rfl (by kernel_rfl) (by kernel_rfl) (quo_run (by decide) ww)) ?_
  refine xl_runS 1 [0,3] [(0,.v (.int .i64 (IntKind.i64.wrap (Int.tdiv z 10)))),(3,.v (.string ((bstr ([IntKind.u8.wrap (48 + z.tmod 10)] : List Int)) ++ out)))] (by kernel_rfl) ?_
  refine xl_eqS (t' := [(0,.v (.int .i64 (z.tdiv 10))),(3,.v (.string ((bstr ([IntKind.u8.wrap (48 + z.tmod 10)] : List Int)) ++ out)))]) (by rw [show (IntKind.i64.wrap (Int.tdiv z 10)) = (z.tdiv 10) from wrap_tdiv hz hR hk]) ?_
  refine xl_endS [0,3] [(0,.v (.int .i64 (z.tdiv 10))),(3,.v (.string ((bstr ([IntKind.u8.wrap (48 + z.tmod 10)] : List Int)) ++ out)))] (by kernel_rfl) ?_
  exact ⟨⟨(z.tdiv 10,bstr [IntKind.u8.wrap (48 + z.tmod 10)] ++ out),⟨markLoop_step hz HK,mark_room hz hR⟩⟩,(wk_pick [] [] (by kernel_rfl) (by kernel_rfl)).trans <| wk_forget 0 0 [0,3] (by kernel_rfl) (by kernel_rfl) (by kernel_rfl),by show (fun (z : Int) (out : ByteArray) => z.toNat) (z.tdiv 10) (bstr [IntKind.u8.wrap (48 + z.tmod 10)] ++ out) < z.toNat; exact mark_dec hz⟩
  have h2p : ¬ (z > 0) := of_decide_eq_false h2
  have hz : ¬ 0 < z := by simpa using h2
  have hE := markLoop_end hz HK
  refine xw_exit ?_
  refine xw_seq ?_
  refine xw_region ?_
  refine xl_opS 1 [18] [(18,.v (.string out))] (.string ((⟨#[109]⟩ : ByteArray) ++ out)) (by kernel_rfl) rfl (by kernel_rfl) rfl (fun _ _ _ ww hr => act_bin hr.1 rfl (by kernel_rfl) (by kernel_rfl) (str_add (mark_sz0 hR hk) ww)) ?_
  refine xl_endS [2] [(2,.v (.string ((⟨#[109]⟩ : ByteArray) ++ out)))] (by kernel_rfl) ?_
  refine xw_ret ?_
  have hmod : markText k = ((⟨#[109]⟩ : ByteArray) ++ out) := by first | rfl | (simp [markText, *]; done) | (rw [markText,if_neg (by omega),hE])
  exact ⟨[.string ((⟨#[109]⟩ : ByteArray) ++ out)],by kernel_rfl,fun w' hb hf => by rw [hmod]; exact ⟨rfl,hb⟩⟩
set_option maxHeartbeats 2000000 in
theorem ymarkPieceS_c (v : Value) (l : List Pce) (k : Int) (w : World) (B : Nat) (hB : B ≤ w.heap.size) (h : Own w B v 2 (l.map pceCells)) (hk0 : 0 ≤ k) (hk : k ≤ 4503599627370496) (hl : l.length ≤ 1048576) : Calls Try.prog 98 #[v, .int .i64 k] w fun e w' => e = .returned (.int .i64 (k + 2 * (l.length : Int))) ∧ Own w' B v 2 ((marks mkP 2 k l.length).map pceCells) ∧ Chgd (ownF B v 2 (l.map pceCells)).blk w w' := by
  obtain ⟨A,cap,hv⟩ := h.form
  rw [List.length_map] at hv; subst hv
  refine x_callsM (args := [.slice A l.length cap,.int .i64 k]) (fn := Try.f98) [ownF B (.slice A l.length cap) 2 (l.map pceCells),frF w (ownF B (.slice A l.length cap) 2 (l.map pceCells)).blk] B Try.func98 rfl Try.ntmps98 rfl hB (by simp only [List.mem_cons,List.not_mem_nil,or_false,forall_eq_or_imp,forall_eq]; exact ⟨h,frF_start w _⟩) apart_fr ?_
  refine xw_seq ?_
  refine xw_region ?_
  refine xl_end [0,1] ⟨[(0,.v (.slice A l.length cap)),(1,.v (.int .i64 k))],[],[],[ownF B (.slice A l.length cap) 2 (l.map pceCells),frF w (ownF B (.slice A l.length cap) 2 (l.map pceCells)).blk]⟩ (by kernel_rfl) ?_
  refine xw_seq ?_
  refine xw_seq ?_
  refine xw_region ?_
  refine xl_endS [0,1,5] [(0,.v (.slice A l.length cap)),(1,.v (.int .i64 k)),(5,.v (.int .i64 0))] (by kernel_rfl) ?_
  refine xw_block ?_
  have e0 : k + 2 * ((0 : Nat) : Int) = k := by omega
  refine xw_eq (st' := ⟨[(0,.v (.slice A l.length cap)),(1,.v (.int .i64 (k + 2 * ((0 : Nat) : Int)))),(5,.v (.int .i64 0))],[],[],[ownF B (.slice A l.length cap) 2 (l.map pceCells),frF w (ownF B (.slice A l.length cap) 2 (l.map pceCells)).blk]⟩) (by rw [e0]) ?_
  refine xw_loopW (α := {x : Nat // (fun (i : Nat) => i ≤ l.length) x}) (fun x => (fun (i : Nat) => (⟨[(0,.v (.slice A l.length cap)),(1,.v (.int .i64 (k + 2 * (i : Int)))),(5,.v (.int .i64 (i : Int)))],[],[],[ownF B (.slice A l.length cap) 2 ((marks mkP 2 k i ++ l.drop i).map pceCells),frF w (ownF B (.slice A l.length cap) 2 (l.map pceCells)).blk]⟩ : St)) x.1) (fun x => (fun (i : Nat) => l.length - i) x.1) ⟨(0),Nat.zero_le _⟩ (wk_forget 0 0 [0,1,5] (by kernel_rfl) (by kernel_rfl) (by kernel_rfl)) ?_
  rintro ⟨i,hi⟩
  refine xw_wk (Wk.of_eq (s' := ⟨[(0,.v (.slice A l.length cap)),(1,.v (.int .i64 (k + 2 * (i : Int)))),(5,.v (.int .i64 (i : Int)))],[],[],[ownF B (.slice A l.length cap) 2 ((marks mkP 2 k i ++ l.drop i).map pceCells),frF w (ownF B (.slice A l.length cap) 2 (l.map pceCells)).blk]⟩) rfl) ?_
  try dsimp only at hi
  refine xw_seq ?_
  refine xw_seq ?_
  refine xw_region ?_
  refine xl_endS [0,1,5,9] [(0,.v (.slice A l.length cap)),(1,.v (.int .i64 (k + 2 * (i : Int)))),(5,.v (.int .i64 (i : Int))),(9,.v (.bool (decide ((i : Int) < ((l.length : Nat) : Int)))))] (by kernel_rfl) ?_
  refine xw_cond (b := decide ((i : Int) < ((l.length : Nat) : Int))) (by kernel_rfl) (fun h1 => ?_) (fun h1 => ?_)
  have h1p : ((i : Int) < ((l.length : Nat) : Int)) := of_decide_eq_true h1
  have hlt : i < l.length := by simpa using h1
  obtain ⟨b,hb⟩ : ∃ b,b = k + 2 * (i : Int) := ⟨_,rfl⟩
  rw [← hb]
  obtain ⟨x,hx⟩ : ∃ x,l[i]? = some x := ⟨_,List.getElem?_eq_getElem hlt⟩
  refine xw_fact0 (g := ownF B (.slice A l.length cap) 2 (((marks mkP 2 k i ++ l.drop i).map pceCells).set i [.int .i64 x.off,.string x.text])) (congrArg (fun z => ownF B (.slice A l.length cap) 2 z) (mark_same (f := pceCells) (mk := mkP) (c := 2) (k := k) hx)) ?_
  refine xw_skip ?_
  refine xw_seq ?_
  refine xw_block ?_
  refine xw_seq ?_
  refine xw_region ?_
  refine xl_elem (kd := .i64) (T := 47) (e := 130) (K := 2) (A := A) (len := l.length) (cap := cap) (rs := (((marks mkP 2 k i ++ l.drop i).map pceCells).set i [.int .i64 x.off,.string x.text])) 3 [0,1,5,12,13,14] ⟨[(0,.v (.slice A l.length cap)),(1,.v (.int .i64 b)),(5,.v (.int .i64 (i : Int))),(12,.v (.slice A l.length cap)),(13,.v (.int .i64 (i : Int))),(14,.v (.int .i64 b))],[],[],[ownF B (.slice A l.length cap) 2 (((marks mkP 2 k i ++ l.drop i).map pceCells).set i [.int .i64 x.off,.string x.text]),frF w (ownF B (.slice A l.length cap) 2 (l.map pceCells)).blk]⟩ i (ownF B (.slice A l.length cap) 2 (((marks mkP 2 k i ++ l.drop i).map pceCells).set i [.int .i64 x.off,.string x.text])) (by kernel_rfl) rfl (by kernel_rfl) (by kernel_rfl) rfl (by kernel_rfl) (by kernel_rfl) (by kernel_rfl) (by kernel_rfl) hlt (by simp) (fun ww h => Own.sl h) (by rw [List.length_set,mark_ln hi]; exact hlt) ?_
  intro b2 o3 hA4
  refine xl_op 0 [0,1,5,14,15] ⟨[(0,.v (.slice A l.length cap)),(1,.v (.int .i64 b)),(5,.v (.int .i64 (i : Int))),(14,.v (.int .i64 b)),(15,.v (.pointer (some ⟨b2,o3 + i * 2,none⟩)))],[],[],[ownF B (.slice A l.length cap) 2 (((marks mkP 2 k i ++ l.drop i).map pceCells).set i [.int .i64 x.off,.string x.text]),frF w (ownF B (.slice A l.length cap) 2 (l.map pceCells)).blk]⟩ (.pointer (some ⟨b2,o3 + i * 2 + 0,none⟩)) (by kernel_rfl) rfl (by kernel_rfl) rfl (fun _ _ _ ww hr => fld_run (sz := 1) hr rfl Try.underlying130 rfl (by kernel_rfl) rfl rfl (by first | rfl | omega)) ?_
  refine xl_stE (K := 2) (po := 0) (B := B) (rs := ((marks mkP 2 k i ++ l.drop i).map pceCells)) (row' := [.int .i64 b,.string x.text]) 0 [0,1,5,14,16] ⟨[(0,.v (.slice A l.length cap)),(1,.v (.int .i64 b)),(5,.v (.int .i64 (i : Int))),(14,.v (.int .i64 b)),(16,.v (.pointer (some ⟨b2,o3 + i * 2 + 0,none⟩)))],[],[],[ownF B (.slice A l.length cap) 2 (((marks mkP 2 k i ++ l.drop i).map pceCells).set i [.int .i64 x.off,.string x.text]),frF w (ownF B (.slice A l.length cap) 2 (l.map pceCells)).blk]⟩ i [.int .i64 x.off,.string x.text] 0 (by kernel_rfl) rfl (by kernel_rfl) rfl rfl rfl rfl (by kernel_rfl) (by kernel_rfl) rfl (cutW_le w B) hA4 (by rw [mark_ln hi]; exact hlt) (fun r hr => by obtain ⟨y,_,rfl⟩ := List.mem_map.1 hr; rfl) (by kernel_rfl) (by kernel_rfl) rfl rfl ?_
  refine xl_end [0,1,5] ⟨[(0,.v (.slice A l.length cap)),(1,.v (.int .i64 b)),(5,.v (.int .i64 (i : Int)))],[],[],[ownF B (.slice A l.length cap) 2 (((marks mkP 2 k i ++ l.drop i).map pceCells).set i [.int .i64 b,.string x.text]),frF w (ownF B (.slice A l.length cap) 2 (l.map pceCells)).blk]⟩ (by kernel_rfl) ?_
  refine xw_seq ?_
  refine xw_region ?_
  refine xl_runS 3 [0,1,5] [(0,.v (.slice A l.length cap)),(1,.v (.int .i64 (IntKind.i64.wrap (b + 1)))),(5,.v (.int .i64 (i : Int)))] (by kernel_rfl) ?_
  refine xl_eqS (t' := [(0,.v (.slice A l.length cap)),(1,.v (.int .i64 (b + 1))),(5,.v (.int .i64 (i : Int)))]) (by rw [show (IntKind.i64.wrap (b + 1)) = (b + 1) from wrap_id (by omega) (by omega)]) ?_
  refine xl_endS [0,1,5] [(0,.v (.slice A l.length cap)),(1,.v (.int .i64 (b + 1))),(5,.v (.int .i64 (i : Int)))] (by kernel_rfl) ?_
  refine xw_seq ?_
  refine xw_region ?_
  refine xl_callS 3 [0,1,5,19,20,21] [(0,.v (.slice A l.length cap)),(1,.v (.int .i64 (b + 1))),(5,.v (.int .i64 (i : Int))),(19,.v (.slice A l.length cap)),(20,.v (.int .i64 (i : Int))),(21,.v (.int .i64 (b + 1)))] 144 [.int .i64 (b + 1)] (some 22) (by kernel_rfl) rfl (by kernel_rfl) rfl (by kernel_rfl) (xc_b fun ww hf => ymarkText_c (b + 1) ww  (by omega)) ?_
  intro _
  refine xl_elem (kd := .i64) (T := 47) (e := 130) (K := 2) (A := A) (len := l.length) (cap := cap) (rs := (((marks mkP 2 k i ++ l.drop i).map pceCells).set i [.int .i64 b,.string x.text])) 0 [0,1,5,19,20,22] ⟨[(0,.v (.slice A l.length cap)),(1,.v (.int .i64 (b + 1))),(5,.v (.int .i64 (i : Int))),(19,.v (.slice A l.length cap)),(20,.v (.int .i64 (i : Int))),(22,.v (.string (markText (b + 1))))],[],[],[ownF B (.slice A l.length cap) 2 (((marks mkP 2 k i ++ l.drop i).map pceCells).set i [.int .i64 b,.string x.text]),frF w (ownF B (.slice A l.length cap) 2 (l.map pceCells)).blk]⟩ i (ownF B (.slice A l.length cap) 2 (((marks mkP 2 k i ++ l.drop i).map pceCells).set i [.int .i64 b,.string x.text])) (by kernel_rfl) rfl (by kernel_rfl) (by kernel_rfl) rfl (by kernel_rfl) (by kernel_rfl) (by kernel_rfl) (by kernel_rfl) hlt (by simp) (fun ww h => Own.sl h) (by rw [List.length_set,mark_ln hi]; exact hlt) ?_
  intro b5 o6 hA7
  refine xl_op 0 [0,1,5,22,23] ⟨[(0,.v (.slice A l.length cap)),(1,.v (.int .i64 (b + 1))),(5,.v (.int .i64 (i : Int))),(22,.v (.string (markText (b + 1)))),(23,.v (.pointer (some ⟨b5,o6 + i * 2,none⟩)))],[],[],[ownF B (.slice A l.length cap) 2 (((marks mkP 2 k i ++ l.drop i).map pceCells).set i [.int .i64 b,.string x.text]),frF w (ownF B (.slice A l.length cap) 2 (l.map pceCells)).blk]⟩ (.pointer (some ⟨b5,o6 + i * 2 + 1,none⟩)) (by kernel_rfl) rfl (by kernel_rfl) rfl (fun _ _ _ ww hr => fld_run (sz := 1) hr rfl Try.underlying130 rfl (by kernel_rfl) rfl rfl (by first | rfl | omega)) ?_
  refine xl_stE (K := 2) (po := 1) (B := B) (rs := ((marks mkP 2 k i ++ l.drop i).map pceCells)) (row' := [.int .i64 b,.string (markText (b + 1))]) 0 [0,1,5,22,24] ⟨[(0,.v (.slice A l.length cap)),(1,.v (.int .i64 (b + 1))),(5,.v (.int .i64 (i : Int))),(22,.v (.string (markText (b + 1)))),(24,.v (.pointer (some ⟨b5,o6 + i * 2 + 1,none⟩)))],[],[],[ownF B (.slice A l.length cap) 2 (((marks mkP 2 k i ++ l.drop i).map pceCells).set i [.int .i64 b,.string x.text]),frF w (ownF B (.slice A l.length cap) 2 (l.map pceCells)).blk]⟩ i [.int .i64 b,.string x.text] 0 (by kernel_rfl) rfl (by kernel_rfl) rfl rfl rfl rfl (by kernel_rfl) (by kernel_rfl) rfl (cutW_le w B) hA7 (by rw [mark_ln hi]; exact hlt) (fun r hr => by obtain ⟨y,_,rfl⟩ := List.mem_map.1 hr; rfl) (by kernel_rfl) (by kernel_rfl) rfl rfl ?_
  refine xl_end [0,1,5] ⟨[(0,.v (.slice A l.length cap)),(1,.v (.int .i64 (b + 1))),(5,.v (.int .i64 (i : Int)))],[],[],[ownF B (.slice A l.length cap) 2 (((marks mkP 2 k i ++ l.drop i).map pceCells).set i [.int .i64 b,.string (markText (b + 1))]),frF w (ownF B (.slice A l.length cap) 2 (l.map pceCells)).blk]⟩ (by kernel_rfl) ?_
  refine xw_region ?_
  refine xl_runS 3 [0,1,5] [(0,.v (.slice A l.length cap)),(1,.v (.int .i64 (IntKind.i64.wrap (b + 1 + 1)))),(5,.v (.int .i64 (i : Int)))] (by kernel_rfl) ?_
  refine xl_eqS (t' := [(0,.v (.slice A l.length cap)),(1,.v (.int .i64 (b + 2))),(5,.v (.int .i64 (i : Int)))]) (by rw [show (IntKind.i64.wrap (b + 1 + 1)) = (b + 2) from wrap_to (by omega) (by omega) (by omega)]) ?_
  refine xl_endS [0,1,5] [(0,.v (.slice A l.length cap)),(1,.v (.int .i64 (b + 2))),(5,.v (.int .i64 (i : Int)))] (by kernel_rfl) ?_
  refine xw_region ?_
  refine xl_runS 3 [0,1,5] [(0,.v (.slice A l.length cap)),(1,.v (.int .i64 (b + 2))),(5,.v (.int .i64 (IntKind.i64.wrap ((i : Int) + 1))))] (by kernel_rfl) ?_
  refine xl_eqS (t' := [(0,.v (.slice A l.length cap)),(1,.v (.int .i64 (b + 2))),(5,.v (.int .i64 ((i : Int) + 1)))]) (by rw [show (IntKind.i64.wrap ((i : Int) + 1)) = ((i : Int) + 1) from wrap_id (by omega) (by omega)]) ?_
  refine xl_endS [0,1,5] [(0,.v (.slice A l.length cap)),(1,.v (.int .i64 (b + 2))),(5,.v (.int .i64 ((i : Int) + 1)))] (by kernel_rfl) ?_
  have e : b + 2 = k + 2 * ((i + 1 : Nat) : Int) := by omega
  rw [e]
  subst hb
  exact ⟨⟨(i + 1),hlt⟩,(wk_fact0 (congrArg (fun z => ownF B (.slice A l.length cap) 2 z) (mark_next (f := pceCells) (mk := mkP) (c := 2) (k := k) hlt))).trans <| wk_forget 0 0 [0,1,5] (by kernel_rfl) (by kernel_rfl) (by kernel_rfl),by show (fun (i : Nat) => l.length - i) (i + 1) < l.length - i; (dsimp only; omega)⟩
  have h1p : ¬ ((i : Int) < ((l.length : Nat) : Int)) := of_decide_eq_false h1
  have hge : i = l.length := by simp at h1; omega
  refine xw_exit ?_
  refine xw_seq ?_
  refine xw_region ?_
  refine xl_endS [4] [(4,.v (.int .i64 (k + 2 * (i : Int))))] (by kernel_rfl) ?_
  refine xw_ret ?_
  subst hge
  exact ⟨[.int .i64 (k + 2 * (l.length : Int))],by kernel_rfl,fun w' hb hf => ⟨ret_int (by simp),by have := hf (ownF B (.slice A l.length cap) 2 ((marks mkP 2 k l.length ++ l.drop l.length).map pceCells)) (by simp); rw [List.drop_length,List.append_nil] at this; exact this,frF_chgd (hf (frF w (ownF B (.slice A l.length cap) 2 (l.map pceCells)).blk) (by simp)) hb rfl rfl rfl⟩⟩
theorem ymarkReceiver_c (x : Rcv) (x_heldV : Value) (k : Int) (w : World) (B : Nat) (hB : B ≤ w.heap.size) (h : Own w B x_heldV 2 (x.held.map pceCells)) (hk0 : 0 ≤ k) (hk : k ≤ 4503599627370496) (hl : x.held.length ≤ 1048576) : Calls Try.prog 36 #[.agg #[.int .i64 x.next, .string x.data, x_heldV, .int .i64 x.fin, .bool x.done], .int .i64 k] w fun e w' => e = .returned (.int .i64 (k + 2 * (x.held.length : Int))) ∧ Own w' B x_heldV 2 ((marks mkP 2 k x.held.length).map pceCells) ∧ Chgd (ownF B x_heldV 2 (x.held.map pceCells)).blk w w' := by
  obtain ⟨A,cap,hv⟩ := h.form
  rw [List.length_map] at hv; subst hv
  refine x_callsM (args := [.agg (rcvL x (.slice A x.held.length cap)).toArray,.int .i64 k]) (fn := Try.f36) [ownF B (.slice A x.held.length cap) 2 (x.held.map pceCells),frF w (ownF B (.slice A x.held.length cap) 2 (x.held.map pceCells)).blk] B Try.func36 rfl Try.ntmps36 rfl hB (by simp only [List.mem_cons,List.not_mem_nil,or_false,forall_eq_or_imp,forall_eq]; exact ⟨h,frF_start w _⟩) apart_fr ?_
  refine xw_seq ?_
  refine xw_region ?_
  refine xl_end [1,2] ⟨[(1,.v (.int .i64 k)),(2,.p 0 0)],[⟨49,rcvL x (.slice A x.held.length cap)⟩],[],[ownF B (.slice A x.held.length cap) 2 (x.held.map pceCells),frF w (ownF B (.slice A x.held.length cap) 2 (x.held.map pceCells)).blk]⟩ (by kernel_rfl) ?_
  refine xw_seq ?_
  refine xw_region ?_
  refine xl_callWS 3 [1,6,7] [(1,.v (.int .i64 k)),(6,.v (.slice A x.held.length cap)),(7,.v (.int .i64 k))] 98 [.slice A x.held.length cap,.int .i64 k] (some 8) 0 (ownF B (.slice A x.held.length cap) 2 (x.held.map pceCells)) (by kernel_rfl) rfl (by kernel_rfl) rfl (by kernel_rfl) rfl rfl (fun ww b h hb => Nat.le_trans (cutW_le w B) (vblk_lo h hb)) (by kernel_rfl) (xcm_own marks_ne fun ww hw hf => ymarkPieceS_c (.slice A x.held.length cap) x.held k ww B (Nat.le_trans (by first | exact Nat.le_refl _ | exact Nat.le_of_eq (cutW_size hB).symm) hw) (hf (ownF B (.slice A x.held.length cap) 2 (x.held.map pceCells)) (by simp)) (by omega) (by omega) (by omega)) ?_
  intro _
  refine xl_endS [1] [(1,.v (.int .i64 (k + 2 * (x.held.length : Int))))] (by kernel_rfl) ?_
  refine xw_seq ?_
  refine xw_region ?_
  refine xl_endS [4] [(4,.v (.int .i64 (k + 2 * (x.held.length : Int))))] (by kernel_rfl) ?_
  refine xw_ret ?_
  exact ⟨[.int .i64 (k + 2 * (x.held.length : Int))],by kernel_rfl,fun w' hb hf => ⟨rfl,hf (ownF B (.slice A x.held.length cap) 2 ((marks mkP 2 k x.held.length).map pceCells)) (by simp),frF_chgd (hf (frF w (ownF B (.slice A x.held.length cap) 2 (x.held.map pceCells)).blk) (by simp)) hb rfl rfl rfl⟩⟩
theorem ymarkConn_c (x : Con) (x_r_heldV : Value) (k : Int) (w : World) (B : Nat) (hB : B ≤ w.heap.size) (h : Own w B x_r_heldV 2 (x.r.held.map pceCells)) (hk0 : 0 ≤ k) (hk : k ≤ 4503599627370496) (hl : x.r.held.length ≤ 1048576) : Calls Try.prog 29 #[.agg #[.int .i64 x.t.ip, .int .i64 x.t.port, .int .i64 x.t.my, .int .i64 x.state, .int .i64 x.s.una, .string x.s.data, .int .i64 x.s.sent, .bool x.s.fin, .bool x.s.finSent, .bool x.s.done, .int .i64 x.r.next, .string x.r.data, x_r_heldV, .int .i64 x.r.fin, .bool x.r.done, .int .i64 x.window, .int .i64 x.most, .int .i64 x.o.mss, .int .i64 x.o.scale, .bool x.o.sack, .bool x.o.stamp, .int .i64 x.o.val, .int .i64 x.o.echo, .int .i64 x.timer, .int .i64 x.tries], .int .i64 k] w fun e w' => e = .returned (.int .i64 (k + 2 * (x.r.held.length : Int))) ∧ Own w' B x_r_heldV 2 ((marks mkP 2 k x.r.held.length).map pceCells) ∧ Chgd (ownF B x_r_heldV 2 (x.r.held.map pceCells)).blk w w' := by
  obtain ⟨A,cap,hv⟩ := h.form
  rw [List.length_map] at hv; subst hv
  refine x_callsM (args := [.agg (conL x (.slice A x.r.held.length cap)).toArray,.int .i64 k]) (fn := Try.f29) [ownF B (.slice A x.r.held.length cap) 2 (x.r.held.map pceCells),frF w (ownF B (.slice A x.r.held.length cap) 2 (x.r.held.map pceCells)).blk] B Try.func29 rfl Try.ntmps29 rfl hB (by simp only [List.mem_cons,List.not_mem_nil,or_false,forall_eq_or_imp,forall_eq]; exact ⟨h,frF_start w _⟩) apart_fr ?_
  refine xw_seq ?_
  refine xw_region ?_
  refine xl_end [1,2] ⟨[(1,.v (.int .i64 k)),(2,.p 0 0)],[⟨51,conL x (.slice A x.r.held.length cap)⟩],[],[ownF B (.slice A x.r.held.length cap) 2 (x.r.held.map pceCells),frF w (ownF B (.slice A x.r.held.length cap) 2 (x.r.held.map pceCells)).blk]⟩ (by kernel_rfl) ?_
  refine xw_seq ?_
  refine xw_region ?_
  refine xl_callWS 3 [1,6,7] [(1,.v (.int .i64 k)),(6,.v (.agg (rcvL x.r (.slice A x.r.held.length cap)).toArray)),(7,.v (.int .i64 k))] 36 [.agg (rcvL x.r (.slice A x.r.held.length cap)).toArray,.int .i64 k] (some 8) 0 (ownF B (.slice A x.r.held.length cap) 2 (x.r.held.map pceCells)) (by kernel_rfl) rfl (by kernel_rfl) rfl (by kernel_rfl) rfl rfl (fun ww b h hb => Nat.le_trans (cutW_le w B) (vblk_lo h hb)) (by kernel_rfl) (xcm_own marks_ne fun ww hw hf => ymarkReceiver_c x.r (.slice A x.r.held.length cap) k ww B (Nat.le_trans (by first | exact Nat.le_refl _ | exact Nat.le_of_eq (cutW_size hB).symm) hw) (hf (ownF B (.slice A x.r.held.length cap) 2 (x.r.held.map pceCells)) (by simp)) (by omega) (by omega) (by omega)) ?_
  intro _
  refine xl_endS [1] [(1,.v (.int .i64 (k + 2 * (x.r.held.length : Int))))] (by kernel_rfl) ?_
  refine xw_seq ?_
  refine xw_region ?_
  refine xl_endS [4] [(4,.v (.int .i64 (k + 2 * (x.r.held.length : Int))))] (by kernel_rfl) ?_
  refine xw_ret ?_
  exact ⟨[.int .i64 (k + 2 * (x.r.held.length : Int))],by kernel_rfl,fun w' hb hf => ⟨rfl,hf (ownF B (.slice A x.r.held.length cap) 2 ((marks mkP 2 k x.r.held.length).map pceCells)) (by simp),frF_chgd (hf (frF w (ownF B (.slice A x.r.held.length cap) 2 (x.r.held.map pceCells)).blk) (by simp)) hb rfl rfl rfl⟩⟩
set_option maxHeartbeats 1000000 in
theorem yheldPieceS_c (a : List Pce) (aV : Value) (k : Int) (w : World) (hl_aV : Sl w aV 2 (a.map pceCells)) (ha : a = marks mkP 2 k a.length) (hk0 : 0 ≤ k) (hk : k ≤ 4503599627370496) (hl : a.length ≤ 1048576) : Calls Try.prog 99 #[aV, .int .i64 k] w fun e w' => e = .returned (.int .i64 (k + 2 * (a.length : Int))) ∧ Below w.heap.size w w' := by
  obtain ⟨Aa,Ca,hva⟩ := hl_aV.form
  rw [List.length_map] at hva; subst hva
  have hna := hl_aV.len; rw [List.length_map] at hna
  refine x_calls (args := [.slice Aa a.length Ca,.int .i64 k]) (fn := Try.f99) [slF (.slice Aa a.length Ca) 2 (a.map pceCells)] Try.func99 rfl Try.ntmps99 rfl (by simp only [List.mem_cons,List.not_mem_nil,or_false,forall_eq_or_imp,forall_eq]; exact ⟨rfl,hl_aV⟩) ?_
  refine xw_seq ?_
  refine xw_region ?_
  refine xl_end [0,1] ⟨[(0,.v (.slice Aa a.length Ca)),(1,.v (.int .i64 k))],[],[],[slF (.slice Aa a.length Ca) 2 (a.map pceCells)]⟩ (by kernel_rfl) ?_
  refine xw_seq ?_
  refine xw_seq ?_
  refine xw_region ?_
  refine xl_endS [0,1,5] [(0,.v (.slice Aa a.length Ca)),(1,.v (.int .i64 k)),(5,.v (.int .i64 0))] (by kernel_rfl) ?_
  refine xw_block ?_
  have e0 : k + 2 * ((0 : Nat) : Int) = k := by omega
  refine xw_eq (st' := ⟨[(0,.v (.slice Aa a.length Ca)),(1,.v (.int .i64 (k + 2 * ((0 : Nat) : Int)))),(5,.v (.int .i64 0))],[],[],[slF (.slice Aa a.length Ca) 2 (a.map pceCells)]⟩) (by rw [e0]) ?_
  refine xw_loopW (α := {x : Nat // (fun (i : Nat) => i ≤ a.length) x}) (fun x => (fun (i : Nat) => (⟨[(0,.v (.slice Aa a.length Ca)),(1,.v (.int .i64 (k + 2 * (i : Int)))),(5,.v (.int .i64 (i : Int)))],[],[],[slF (.slice Aa a.length Ca) 2 (a.map pceCells)]⟩ : St)) x.1) (fun x => (fun (i : Nat) => a.length - i) x.1) ⟨(0),Nat.zero_le _⟩ (wk_forget 0 0 [0,1,5] (by kernel_rfl) (by kernel_rfl) (by kernel_rfl)) ?_
  rintro ⟨i,hi⟩
  refine xw_wk (Wk.of_eq (s' := ⟨[(0,.v (.slice Aa a.length Ca)),(1,.v (.int .i64 (k + 2 * (i : Int)))),(5,.v (.int .i64 (i : Int)))],[],[],[slF (.slice Aa a.length Ca) 2 (a.map pceCells)]⟩) rfl) ?_
  try dsimp only at hi
  refine xw_seq ?_
  refine xw_seq ?_
  refine xw_region ?_
  refine xl_endS [0,1,5,9] [(0,.v (.slice Aa a.length Ca)),(1,.v (.int .i64 (k + 2 * (i : Int)))),(5,.v (.int .i64 (i : Int))),(9,.v (.bool (decide ((i : Int) < ((a.length : Nat) : Int)))))] (by kernel_rfl) ?_
  refine xw_cond (b := decide ((i : Int) < ((a.length : Nat) : Int))) (by kernel_rfl) (fun h1 => ?_) (fun h1 => ?_)
  have h1p : ((i : Int) < ((a.length : Nat) : Int)) := of_decide_eq_true h1
  have hlt : i < a.length := by simpa using h1
  obtain ⟨x,hx⟩ : ∃ x,a[i]? = some x := ⟨_,List.getElem?_eq_getElem hlt⟩
  have hxe := marks_get (mk := mkP) (c := 2) (k := k) (n := a.length) (show _ = some x by rw [← ha]; exact hx)
  obtain ⟨b,hb⟩ : ∃ b,b = k + 2 * (i : Int) := ⟨_,rfl⟩
  rw [← hb] at hxe ⊢
  refine xw_skip ?_
  refine xw_seq ?_
  refine xw_block ?_
  refine xw_seq ?_
  refine xw_seq ?_
  refine xw_region ?_
  refine xl_index (kd := .i64) (T := 47) (e := 130) (K := 2) 2 [0,1,5,12,13] ⟨[(0,.v (.slice Aa a.length Ca)),(1,.v (.int .i64 b)),(5,.v (.int .i64 (i : Int))),(12,.v (.slice Aa a.length Ca)),(13,.v (.int .i64 (i : Int)))],[],[],[slF (.slice Aa a.length Ca) 2 (a.map pceCells)]⟩ i [.int .i64 b,.string (markText (b + 1))] (slF (.slice Aa a.length Ca) 2 (a.map pceCells)) (by kernel_rfl) rfl (by kernel_rfl) rfl rfl (by kernel_rfl) (by kernel_rfl) (by kernel_rfl) (by kernel_rfl) hlt (by simp) (fun w h => h) (fun b h => h) (by simp only [List.getElem?_map,hx,hxe]; rfl) ?_
  refine xl_endS [0,1,5,18] [(0,.v (.slice Aa a.length Ca)),(1,.v (.int .i64 b)),(5,.v (.int .i64 (i : Int))),(18,.v (.bool (b != b)))] (by kernel_rfl) ?_
  refine xw_cond (b := b != b) (by kernel_rfl) (fun h2 => ?_) (fun h2 => ?_)
  simp at h2
  have h2p := neF h2
  refine xw_skip ?_
  refine xw_seq ?_
  refine xw_region ?_
  refine xl_runS 3 [0,1,5] [(0,.v (.slice Aa a.length Ca)),(1,.v (.int .i64 (IntKind.i64.wrap (b + 1)))),(5,.v (.int .i64 (i : Int)))] (by kernel_rfl) ?_
  refine xl_eqS (t' := [(0,.v (.slice Aa a.length Ca)),(1,.v (.int .i64 (b + 1))),(5,.v (.int .i64 (i : Int)))]) (by rw [show (IntKind.i64.wrap (b + 1)) = (b + 1) from wrap_id (by omega) (by omega)]) ?_
  refine xl_endS [0,1,5] [(0,.v (.slice Aa a.length Ca)),(1,.v (.int .i64 (b + 1))),(5,.v (.int .i64 (i : Int)))] (by kernel_rfl) ?_
  refine xw_seq ?_
  refine xw_seq ?_
  refine xws_start ?_
  refine xws_row (K := 2) (j := i) [.int .i64 b,.string (markText (b + 1))] (slF (.slice Aa a.length Ca) 2 (a.map pceCells)) (fun _ _ h => h) (by simp) (fun w h => h) (fun b h => h) (by simp only [List.getElem?_map,hx,hxe]; rfl) (fun bq3 offq3 hAq3 => ?_)
  refine xws_regionE [] (by kernel_rfl) (fun ρ σ hq4 => ?_)
  refine xe_tkS [0,1,5] [26,22,21,0,1,5] 5 [(26,.v (.int .i64 (b + 1))),(22,.v (.int .i64 (i : Int))),(21,.v (.slice Aa a.length Ca)),(0,.v (.slice Aa a.length Ca)),(1,.v (.int .i64 (b + 1))),(5,.v (.int .i64 (i : Int)))] (fun _ _ h => h) rfl (by kernel_rfl) ?_
  refine xe_takeI (kd := .i64) (T := 47) (e := 130) (K := 2) (j := i) (A := Aa) (len := a.length) (cap := Ca) 2 1 _ rfl (by kernel_rfl) (by kernel_rfl) (by kernel_rfl) (fun _ _ h => h) (by kernel_rfl) rfl rfl (by kernel_rfl) (by kernel_rfl) (by kernel_rfl) (by kernel_rfl) hlt hAq3 hq4.2 (by kernel_rfl) rfl ?_
  refine xe_tkS [3,4] [25,26,0,1,5] 2 [(25,.v (.string (markText (b + 1)))),(26,.v (.int .i64 (b + 1))),(0,.v (.slice Aa a.length Ca)),(1,.v (.int .i64 (b + 1))),(5,.v (.int .i64 (i : Int)))] (fun _ _ h => h) rfl (by kernel_rfl) ?_
  refine xe_all [6] (by kernel_rfl) (by simp) ?_
  refine xs_call 6 144 [.int .i64 (b + 1)] (some 27) rfl (by kernel_rfl) rfl (by kernel_rfl) (xc_b fun ww hf => ymarkText_c (b + 1) ww  (by omega)) ?_
  intro _
  refine xe_tkS [7] [28,0,1,5] 0 [(28,.v (.bool (!((markText (b + 1)).toList == (markText (b + 1)).toList)))),(0,.v (.slice Aa a.length Ca)),(1,.v (.int .i64 (b + 1))),(5,.v (.int .i64 (i : Int)))] (fun _ _ h => h) rfl (by kernel_rfl) ?_
  refine xe_done (by kernel_rfl) ?_
  refine xw_cond (b := !((markText (b + 1)).toList == (markText (b + 1)).toList)) (by kernel_rfl) (fun h5 => ?_) (fun h5 => ?_)
  have h5n := not_t h5
  simp at h5n
  have h5n := not_f h5
  have h5np := h5n; simp only [beq_iff_eq,bne_iff_ne,beq_eq_false_iff_ne,bne_eq_false_iff_eq,ne_eq,toList_lit0] at h5np
  refine xw_skip ?_
  refine xw_region ?_
  refine xl_runS 3 [0,1,5] [(0,.v (.slice Aa a.length Ca)),(1,.v (.int .i64 (IntKind.i64.wrap (b + 1 + 1)))),(5,.v (.int .i64 (i : Int)))] (by kernel_rfl) ?_
  refine xl_eqS (t' := [(0,.v (.slice Aa a.length Ca)),(1,.v (.int .i64 (b + 2))),(5,.v (.int .i64 (i : Int)))]) (by rw [show (IntKind.i64.wrap (b + 1 + 1)) = (b + 2) from wrap_to (by omega) (by omega) (by omega)]) ?_
  refine xl_endS [0,1,5] [(0,.v (.slice Aa a.length Ca)),(1,.v (.int .i64 (b + 2))),(5,.v (.int .i64 (i : Int)))] (by kernel_rfl) ?_
  refine xw_region ?_
  refine xl_runS 3 [0,1,5] [(0,.v (.slice Aa a.length Ca)),(1,.v (.int .i64 (b + 2))),(5,.v (.int .i64 (IntKind.i64.wrap ((i : Int) + 1))))] (by kernel_rfl) ?_
  refine xl_eqS (t' := [(0,.v (.slice Aa a.length Ca)),(1,.v (.int .i64 (b + 2))),(5,.v (.int .i64 ((i : Int) + 1)))]) (by rw [show (IntKind.i64.wrap ((i : Int) + 1)) = ((i : Int) + 1) from wrap_id (by omega) (by omega)]) ?_
  refine xl_endS [0,1,5] [(0,.v (.slice Aa a.length Ca)),(1,.v (.int .i64 (b + 2))),(5,.v (.int .i64 ((i : Int) + 1)))] (by kernel_rfl) ?_
  have e : b + 2 = k + 2 * ((i + 1 : Nat) : Int) := by omega
  rw [e]
  exact ⟨⟨(i + 1),hlt⟩,wk_forget 0 0 [0,1,5] (by kernel_rfl) (by kernel_rfl) (by kernel_rfl),by show (fun (i : Nat) => a.length - i) (i + 1) < a.length - i; (dsimp only; omega)⟩
  have h1p : ¬ ((i : Int) < ((a.length : Nat) : Int)) := of_decide_eq_false h1
  have hge : i = a.length := by simp at h1; omega
  refine xw_exit ?_
  refine xw_seq ?_
  refine xw_region ?_
  refine xl_endS [4] [(4,.v (.int .i64 (k + 2 * (i : Int))))] (by kernel_rfl) ?_
  refine xw_ret ?_
  have hmod : k + 2 * (a.length : Int) = (k + 2 * (i : Int)) := by first | rfl | (rw [hge])
  exact ⟨[.int .i64 (k + 2 * (i : Int))],by kernel_rfl,fun w' hb hf => by rw [hmod]; exact ⟨rfl,hb⟩⟩
theorem yheldPieceS_m (n : Nat) (v : Value) (k : Int) (w : World) (hs : Sl w v 2 ((marks mkP 2 k n).map pceCells)) (hk0 : 0 ≤ k) (hk : k ≤ 4503599627370496) (hl : n ≤ 1048576) : Calls Try.prog 99 #[v, .int .i64 k] w fun e w' => e = .returned (.int .i64 (k + 2 * (n : Int))) ∧ Below w.heap.size w w' := by
  have := yheldPieceS_c (marks mkP 2 k n) v k w hs (by rw [marks_len]) hk0 hk (by rw [marks_len]; exact hl)
  rw [marks_len] at this; exact this
theorem yheldReceiver_m (n : Nat) (x_next : Int) (x_data : ByteArray) (x_fin : Int) (x_done : Bool) (v : Value) (k : Int) (w : World) (hs : Sl w v 2 ((marks mkP 2 k n).map pceCells)) (hk0 : 0 ≤ k) (hk : k ≤ 4503599627370496) (hl : n ≤ 1048576) : Calls Try.prog 37 #[.agg #[.int .i64 x_next, .string x_data, v, .int .i64 x_fin, .bool x_done], .int .i64 k] w fun e w' => e = .returned (.int .i64 (k + 2 * (n : Int))) ∧ Below w.heap.size w w' := by
  obtain ⟨A,cap,hv⟩ := hs.form
  rw [List.length_map,marks_len] at hv; subst hv
  refine x_calls (args := [.agg #[.int .i64 x_next,.string x_data,.slice A n cap,.int .i64 x_fin,.bool x_done],.int .i64 k]) (fn := Try.f37) [slF (.slice A n cap) 2 ((marks mkP 2 k n).map pceCells)] Try.func37 rfl Try.ntmps37 rfl (by simp only [List.mem_cons,List.not_mem_nil,or_false,forall_eq_or_imp,forall_eq]; exact ⟨rfl,hs⟩) ?_
  refine xw_seq ?_
  refine xw_region ?_
  refine xl_end [1,2] ⟨[(1,.v (.int .i64 k)),(2,.p 0 0)],[⟨49,[.int .i64 x_next,.string x_data,.slice A n cap,.int .i64 x_fin,.bool x_done]⟩],[],[slF (.slice A n cap) 2 ((marks mkP 2 k n).map pceCells)]⟩ (by kernel_rfl) ?_
  refine xw_seq ?_
  refine xw_region ?_
  refine xl_callS 3 [1,6,7] [(1,.v (.int .i64 k)),(6,.v (.slice A n cap)),(7,.v (.int .i64 k))] 99 [.slice A n cap,.int .i64 k] (some 8) (by kernel_rfl) rfl (by kernel_rfl) rfl (by kernel_rfl) (xc_b fun ww hf => yheldPieceS_m n  (.slice A n cap) k ww (hf (slF (.slice A n cap) 2 ((marks mkP 2 k n).map pceCells)) (by simp)) (by omega) (by omega) (by omega)) ?_
  intro _
  refine xl_endS [1] [(1,.v (.int .i64 (k + 2 * (n : Int))))] (by kernel_rfl) ?_
  refine xw_seq ?_
  refine xw_seq ?_
  refine xw_region ?_
  refine xl_endS [1,10] [(1,.v (.int .i64 (k + 2 * (n : Int)))),(10,.v (.bool (decide ((k + 2 * (n : Int)) < 0))))] (by kernel_rfl) ?_
  refine xw_cond (b := decide ((k + 2 * (n : Int)) < 0)) (by kernel_rfl) (fun h1 => ?_) (fun h1 => ?_)
  have h1p : ((k + 2 * (n : Int)) < 0) := of_decide_eq_true h1
  exfalso; have := of_decide_eq_true h1; omega
  have h1p : ¬ ((k + 2 * (n : Int)) < 0) := of_decide_eq_false h1
  refine xw_skip ?_
  refine xw_seq ?_
  refine xw_region ?_
  refine xl_endS [4] [(4,.v (.int .i64 (k + 2 * (n : Int))))] (by kernel_rfl) ?_
  refine xw_ret ?_
  exact ⟨[.int .i64 (k + 2 * (n : Int))],by kernel_rfl,fun w' hb hf => ⟨rfl,hb⟩⟩
theorem yheldConn_m (n : Nat) (x_t_ip : Int) (x_t_port : Int) (x_t_my : Int) (x_state : Int) (x_s_una : Int) (x_s_data : ByteArray) (x_s_sent : Int) (x_s_fin : Bool) (x_s_finSent : Bool) (x_s_done : Bool) (x_r_next : Int) (x_r_data : ByteArray) (x_r_fin : Int) (x_r_done : Bool) (x_window : Int) (x_most : Int) (x_o_mss : Int) (x_o_scale : Int) (x_o_sack : Bool) (x_o_stamp : Bool) (x_o_val : Int) (x_o_echo : Int) (x_timer : Int) (x_tries : Int) (v : Value) (k : Int) (w : World) (hs : Sl w v 2 ((marks mkP 2 k n).map pceCells)) (hk0 : 0 ≤ k) (hk : k ≤ 4503599627370496) (hl : n ≤ 1048576) : Calls Try.prog 30 #[.agg #[.int .i64 x_t_ip, .int .i64 x_t_port, .int .i64 x_t_my, .int .i64 x_state, .int .i64 x_s_una, .string x_s_data, .int .i64 x_s_sent, .bool x_s_fin, .bool x_s_finSent, .bool x_s_done, .int .i64 x_r_next, .string x_r_data, v, .int .i64 x_r_fin, .bool x_r_done, .int .i64 x_window, .int .i64 x_most, .int .i64 x_o_mss, .int .i64 x_o_scale, .bool x_o_sack, .bool x_o_stamp, .int .i64 x_o_val, .int .i64 x_o_echo, .int .i64 x_timer, .int .i64 x_tries], .int .i64 k] w fun e w' => e = .returned (.int .i64 (k + 2 * (n : Int))) ∧ Below w.heap.size w w' := by
  obtain ⟨A,cap,hv⟩ := hs.form
  rw [List.length_map,marks_len] at hv; subst hv
  refine x_calls (args := [.agg #[.int .i64 x_t_ip,.int .i64 x_t_port,.int .i64 x_t_my,.int .i64 x_state,.int .i64 x_s_una,.string x_s_data,.int .i64 x_s_sent,.bool x_s_fin,.bool x_s_finSent,.bool x_s_done,.int .i64 x_r_next,.string x_r_data,.slice A n cap,.int .i64 x_r_fin,.bool x_r_done,.int .i64 x_window,.int .i64 x_most,.int .i64 x_o_mss,.int .i64 x_o_scale,.bool x_o_sack,.bool x_o_stamp,.int .i64 x_o_val,.int .i64 x_o_echo,.int .i64 x_timer,.int .i64 x_tries],.int .i64 k]) (fn := Try.f30) [slF (.slice A n cap) 2 ((marks mkP 2 k n).map pceCells)] Try.func30 rfl Try.ntmps30 rfl (by simp only [List.mem_cons,List.not_mem_nil,or_false,forall_eq_or_imp,forall_eq]; exact ⟨rfl,hs⟩) ?_
  refine xw_seq ?_
  refine xw_region ?_
  refine xl_end [1,2] ⟨[(1,.v (.int .i64 k)),(2,.p 0 0)],[⟨51,[.int .i64 x_t_ip,.int .i64 x_t_port,.int .i64 x_t_my,.int .i64 x_state,.int .i64 x_s_una,.string x_s_data,.int .i64 x_s_sent,.bool x_s_fin,.bool x_s_finSent,.bool x_s_done,.int .i64 x_r_next,.string x_r_data,.slice A n cap,.int .i64 x_r_fin,.bool x_r_done,.int .i64 x_window,.int .i64 x_most,.int .i64 x_o_mss,.int .i64 x_o_scale,.bool x_o_sack,.bool x_o_stamp,.int .i64 x_o_val,.int .i64 x_o_echo,.int .i64 x_timer,.int .i64 x_tries]⟩],[],[slF (.slice A n cap) 2 ((marks mkP 2 k n).map pceCells)]⟩ (by kernel_rfl) ?_
  refine xw_seq ?_
  refine xw_region ?_
  refine xl_callS 3 [1,6,7] [(1,.v (.int .i64 k)),(6,.v (.agg #[.int .i64 x_r_next,.string x_r_data,.slice A n cap,.int .i64 x_r_fin,.bool x_r_done])),(7,.v (.int .i64 k))] 37 [.agg #[.int .i64 x_r_next,.string x_r_data,.slice A n cap,.int .i64 x_r_fin,.bool x_r_done],.int .i64 k] (some 8) (by kernel_rfl) rfl (by kernel_rfl) rfl (by kernel_rfl) (xc_b fun ww hf => yheldReceiver_m n x_r_next x_r_data x_r_fin x_r_done (.slice A n cap) k ww (hf (slF (.slice A n cap) 2 ((marks mkP 2 k n).map pceCells)) (by simp)) (by omega) (by omega) (by omega)) ?_
  intro _
  refine xl_endS [1] [(1,.v (.int .i64 (k + 2 * (n : Int))))] (by kernel_rfl) ?_
  refine xw_seq ?_
  refine xw_seq ?_
  refine xw_region ?_
  refine xl_endS [1,10] [(1,.v (.int .i64 (k + 2 * (n : Int)))),(10,.v (.bool (decide ((k + 2 * (n : Int)) < 0))))] (by kernel_rfl) ?_
  refine xw_cond (b := decide ((k + 2 * (n : Int)) < 0)) (by kernel_rfl) (fun h1 => ?_) (fun h1 => ?_)
  have h1p : ((k + 2 * (n : Int)) < 0) := of_decide_eq_true h1
  exfalso; have := of_decide_eq_true h1; omega
  have h1p : ¬ ((k + 2 * (n : Int)) < 0) := of_decide_eq_false h1
  refine xw_skip ?_
  refine xw_seq ?_
  refine xw_region ?_
  refine xl_endS [4] [(4,.v (.int .i64 (k + 2 * (n : Int))))] (by kernel_rfl) ?_
  refine xw_ret ?_
  exact ⟨[.int .i64 (k + 2 * (n : Int))],by kernel_rfl,fun w' hb hf => ⟨rfl,hb⟩⟩
end Go.Proofs.Yteoipoenbofemaa
