/- Contracts that this law needs, part 3. -/
import Derived.Test.YtjfamgkkenccdaaZ2
namespace Go.Proofs.Ytjfamgkkenccdaa
open Go.RowKit
set_option linter.unusedVariables false
set_option linter.unusedSimpArgs false
set_option maxRecDepth 100000

set_option maxHeartbeats 1000000 in
theorem yiWrite_c (c : Con) (c_r_heldV : Value) (text : ByteArray) (w : World) (hl_c_r_heldV : Sl w c_r_heldV 2 (c.r.held.map pceCells)) (hkn : c.r.held.length ≤ 1048576)(hm : ∀ p ∈ c.r.held, p.text.size ≤ 1048576) (hsz : c.r.data.size ≤ 4611686018427387904) (hts : text.size ≤ 4611686018427387904) (B : Nat) (hB : B ≤ w.heap.size) : Calls Try.prog 48 #[.agg (conL c c_r_heldV).toArray, .string text] w fun e w' => XRs w w' e (α := (Option Addr × Nat) × (Option Addr × Nat)) (fun y => .tuple #[.agg (conL (write c text).1 (.slice y.1.1 ((write c text).1.r.held.length) y.1.2)).toArray, .int .i64 ((write c text).2.1), .slice y.2.1 ((write c text).2.2.length) y.2.2]) (fun y => [ownF B (.slice y.1.1 ((write c text).1.r.held.length) y.1.2) 2 ((write c text).1.r.held.map pceCells), ownF B (.slice y.2.1 ((write c text).2.2.length) y.2.2) 13 ((write c text).2.2.map segCells)]) := by
  obtain ⟨Acrh,Ccrh,hvcrh⟩ := hl_c_r_heldV.form
  rw [List.length_map] at hvcrh; subst hvcrh
  have hncrh := hl_c_r_heldV.len; rw [List.length_map] at hncrh
  refine x_callsA (args := [.agg (conL c (.slice Acrh c.r.held.length Ccrh)).toArray,.string text]) (fn := Try.f48) [slF (.slice Acrh c.r.held.length Ccrh) 2 (c.r.held.map pceCells)] Try.func48 rfl Try.ntmps48 rfl (by simp only [List.mem_cons,List.not_mem_nil,or_false,forall_eq_or_imp,forall_eq]; exact ⟨rfl,hl_c_r_heldV⟩) ?_
  refine xw_seq ?_
  refine xw_region ?_
  refine xl_end [1,2,4] ⟨[(1,.v (.string text)),(2,.p 0 0),(4,.p 1 0)],[⟨42,conL c (.slice Acrh c.r.held.length Ccrh)⟩,⟨42,conZ⟩],[],[slF (.slice Acrh c.r.held.length Ccrh) 2 (c.r.held.map pceCells)]⟩ (by kernel_rfl) ?_
  refine xw_seq ?_
  refine xw_seq ?_
  refine xw_join ⟨[(1,.v (.string text)),(2,.p 0 0),(4,.p 1 0),(23,.v (.bool ((!(conOk c)) || ((c.state != 1) && (c.state != 4)))))],[⟨42,conL c (.slice Acrh c.r.held.length Ccrh)⟩,⟨42,conZ⟩],[],[slF (.slice Acrh c.r.held.length Ccrh) 2 (c.r.held.map pceCells)]⟩ ?_ ?_
  refine xw_region ?_
  refine xl_callS 1 [1,2,4,11] [(1,.v (.string text)),(2,.p 0 0),(4,.p 1 0),(11,.v (.agg (conL c (.slice Acrh c.r.held.length Ccrh)).toArray))] 70 [.agg (conL c (.slice Acrh c.r.held.length Ccrh)).toArray] (some 12) (by kernel_rfl) rfl (by kernel_rfl) rfl (by kernel_rfl) (xc_b fun ww hf => yiConnOk_c c (.slice Acrh c.r.held.length Ccrh) ww (hf (slF (.slice Acrh c.r.held.length Ccrh) 2 (c.r.held.map pceCells)) (by simp)) (by assumption) (by omega)) ?_
  intro _
  refine xl_runS 2 [1,2,4,14] [(1,.v (.string text)),(2,.p 0 0),(4,.p 1 0),(14,.v (.bool (!(conOk c))))] (by kernel_rfl) ?_
  refine xl_split 14 (b := !(conOk c)) (by kernel_rfl) (fun h1 => ?_) (fun h1 => ?_)
  have h1n := not_t h1
  refine xl_endS [1,2,4,23] [(1,.v (.string text)),(2,.p 0 0),(4,.p 1 0),(23,.v (.bool true))] (by kernel_rfl) ?_
  show Wk _ _
  try rw [h1]
  exact wk_forget 2 0 [1,2,4,23] (by kernel_rfl) (by kernel_rfl) (by kernel_rfl)
  have h1n := not_f h1
  have h1nc : conOk c = true := (by simpa using h1n)
  have h1nq := conOk_bd h1nc; obtain ⟨h1nq0,h1nq1,h1nq2,h1nq3,h1nq4,h1nq5,h1nq6,h1nq7,h1nq8,h1nq9⟩ := h1nq
  refine xl_runS 4 [1,2,4,14,18] [(1,.v (.string text)),(2,.p 0 0),(4,.p 1 0),(14,.v (.bool false)),(18,.v (.bool (c.state != 1)))] (by kernel_rfl) ?_
  refine xl_split 18 (b := c.state != 1) (by kernel_rfl) (fun h2 => ?_) (fun h2 => ?_)
  have h2p := neT h2
  refine xl_endS [1,2,4,23] [(1,.v (.string text)),(2,.p 0 0),(4,.p 1 0),(23,.v (.bool (c.state != 4)))] (by kernel_rfl) ?_
  show Wk _ _
  try rw [h1]
  try rw [h2]
  exact wk_forget 2 0 [1,2,4,23] (by kernel_rfl) (by kernel_rfl) (by kernel_rfl)
  have h2p := neF h2
  refine xl_endS [1,2,4,23] [(1,.v (.string text)),(2,.p 0 0),(4,.p 1 0),(23,.v (.bool false))] (by kernel_rfl) ?_
  show Wk _ _
  try rw [h1]
  try rw [h2]
  exact wk_forget 2 0 [1,2,4,23] (by kernel_rfl) (by kernel_rfl) (by kernel_rfl)
  refine xw_cond (b := (!(conOk c)) || ((c.state != 1) && (c.state != 4))) (by kernel_rfl) (fun h3 => ?_) (fun h3 => ?_)
  refine xw_seq ?_
  refine xw_region ?_
  refine xl_callS 1 [4,24] [(4,.p 1 0),(24,.v (.agg (conL c (.slice Acrh c.r.held.length Ccrh)).toArray))] 97 [.agg (conL c (.slice Acrh c.r.held.length Ccrh)).toArray] (some 25) (by kernel_rfl) rfl (by kernel_rfl) rfl (by kernel_rfl) (xc_r fun ww hw hf => ycloneConn_c c (.slice Acrh c.r.held.length Ccrh) ww (hf (slF (.slice Acrh c.r.held.length Ccrh) 2 (c.r.held.map pceCells)) (by simp)) (by assumption) w.heap.size hw) ?_
  rintro ⟨v4a,v4c⟩
  refine xl_end [4,5,6] ⟨[(4,.p 1 0),(5,.v (.int .i64 0)),(6,.v (.slice none 0 0))],[⟨42,conL c (.slice Acrh c.r.held.length Ccrh)⟩,⟨42,conL c (.slice v4a c.r.held.length v4c)⟩],[],[ownF w.heap.size (.slice v4a c.r.held.length v4c) 2 (c.r.held.map pceCells),slF (.slice Acrh c.r.held.length Ccrh) 2 (c.r.held.map pceCells)]⟩ (by kernel_rfl) ?_
  refine xw_ret ?_
  have hmod : write c text = (c,0,[]) := by first | rfl | (simp [write, *]; done) | grind [write]
  exact ⟨[.agg (conL c (.slice v4a c.r.held.length v4c)).toArray,.int .i64 0,.slice none 0 0],by kernel_rfl,fun w' hb hf ha => by rw [hmod]; exact xr_two ((v4a,v4c),(none,0)) rfl rfl (ownF_ownF (hf (ownF w.heap.size (.slice v4a c.r.held.length v4c) 2 (c.r.held.map pceCells)) (by simp)) hB) (fun b hb => ownF_lo (hf (ownF w.heap.size (.slice v4a c.r.held.length v4c) 2 (c.r.held.map pceCells)) (by simp)) hb) (.inl ⟨rfl,_,rfl⟩) (fun b hb => (hb.1 rfl).elim) (apart_nil2 rfl) hb⟩
  have h3l := or_l h3
  have h3ln := not_f h3l
  have h3lnc : conOk c = true := (by simpa using h3ln)
  have h3lnq := conOk_bd h3lnc; obtain ⟨h3lnq0,h3lnq1,h3lnq2,h3lnq3,h3lnq4,h3lnq5,h3lnq6,h3lnq7,h3lnq8,h3lnq9⟩ := h3lnq
  have h3r := or_r h3
  refine xw_skip ?_
  refine xw_seq ?_
  refine xw_region ?_
  refine xl_callS 3 [2,4,28,29] [(2,.p 0 0),(4,.p 1 0),(28,.v (.agg (sndL c.s).toArray)),(29,.v (.string text))] 112 [.agg (sndL c.s).toArray,.string text] (some 30) (by kernel_rfl) rfl (by kernel_rfl) rfl (by kernel_rfl) (xc_b fun ww hf => yiQueued_c c.s text ww  (by omega)) ?_
  intro _
  refine xl_end [2,4,7,8] ⟨[(2,.p 0 0),(4,.p 1 0),(7,.p 2 0),(8,.v (.int .i64 ((queued c.s text).2)))],[⟨42,conL c (.slice Acrh c.r.held.length Ccrh)⟩,⟨42,conZ⟩,⟨36,sndL (queued c.s text).1⟩],[],[slF (.slice Acrh c.r.held.length Ccrh) 2 (c.r.held.map pceCells)]⟩ (by kernel_rfl) ?_
  refine xw_seq ?_
  refine xw_region ?_
  refine xl_end [2,4,8] ⟨[(2,.p 0 0),(4,.p 1 0),(8,.v (.int .i64 ((queued c.s text).2)))],[⟨42,conL { c with s := (queued c.s text).1 } (.slice Acrh c.r.held.length Ccrh)⟩,⟨42,conZ⟩,⟨36,sndL (queued c.s text).1⟩],[],[slF (.slice Acrh c.r.held.length Ccrh) 2 (c.r.held.map pceCells)]⟩ (by kernel_rfl) ?_
  refine xw_seq ?_
  refine xw_region ?_
  refine xl_callS 3 [4,8,36,38] [(4,.p 1 0),(8,.v (.int .i64 ((queued c.s text).2))),(36,.v (.agg (conL { c with s := (queued c.s text).1 } (.slice Acrh c.r.held.length Ccrh)).toArray)),(38,.v (.int .i64 c.window))] 44 [.agg (conL { c with s := (queued c.s text).1 } (.slice Acrh c.r.held.length Ccrh)).toArray,.int .i64 c.window] (some 39) (by kernel_rfl) rfl (by kernel_rfl) rfl (by kernel_rfl) (xc_r fun ww hw hf => yiPump_c ({ c with s := (queued c.s text).1 }) (.slice Acrh c.r.held.length Ccrh) c.window ww (hf (slF (.slice Acrh c.r.held.length Ccrh) 2 (c.r.held.map pceCells)) (by simp)) (by assumption) (by assumption) (by omega) (by omega) w.heap.size hw) ?_
  rintro ⟨⟨v5a,v5c⟩,⟨v6a,v6c⟩⟩
  have hbd7 : (pump ({ c with s := (queued c.s text).1 }) c.window).1.r.held.length ≤ 1048576 ∧ (pump ({ c with s := (queued c.s text).1 }) c.window).2.length ≤ 49 := pump_bd _ _  (by omega)
  have hbd7a := hbd7.1; have hbd7b := hbd7.2
  refine xl_end [4,8,9,10] ⟨[(4,.p 1 0),(8,.v (.int .i64 ((queued c.s text).2))),(9,.p 3 0),(10,.v (.slice v6a ((pump ({ c with s := (queued c.s text).1 }) c.window).2.length) v6c))],[⟨42,conL { c with s := (queued c.s text).1 } (.slice Acrh c.r.held.length Ccrh)⟩,⟨42,conZ⟩,⟨36,sndL (queued c.s text).1⟩,⟨42,conL (pump ({ c with s := (queued c.s text).1 }) c.window).1 (.slice v5a ((pump ({ c with s := (queued c.s text).1 }) c.window).1.r.held.length) v5c)⟩],[],[ownF w.heap.size (.slice v5a ((pump ({ c with s := (queued c.s text).1 }) c.window).1.r.held.length) v5c) 2 ((pump ({ c with s := (queued c.s text).1 }) c.window).1.r.held.map pceCells),ownF w.heap.size (.slice v6a ((pump ({ c with s := (queued c.s text).1 }) c.window).2.length) v6c) 13 ((pump ({ c with s := (queued c.s text).1 }) c.window).2.map segCells),slF (.slice Acrh c.r.held.length Ccrh) 2 (c.r.held.map pceCells)]⟩ (by kernel_rfl) ?_
  refine xw_seq ?_
  refine xw_region ?_
  refine xl_end [4,5,6] ⟨[(4,.p 1 0),(5,.v (.int .i64 ((queued c.s text).2))),(6,.v (.slice v6a ((pump ({ c with s := (queued c.s text).1 }) c.window).2.length) v6c))],[⟨42,conL { c with s := (queued c.s text).1 } (.slice Acrh c.r.held.length Ccrh)⟩,⟨42,conL (pump ({ c with s := (queued c.s text).1 }) c.window).1 (.slice v5a ((pump ({ c with s := (queued c.s text).1 }) c.window).1.r.held.length) v5c)⟩,⟨36,sndL (queued c.s text).1⟩,⟨42,conL (pump ({ c with s := (queued c.s text).1 }) c.window).1 (.slice v5a ((pump ({ c with s := (queued c.s text).1 }) c.window).1.r.held.length) v5c)⟩],[],[ownF w.heap.size (.slice v5a ((pump ({ c with s := (queued c.s text).1 }) c.window).1.r.held.length) v5c) 2 ((pump ({ c with s := (queued c.s text).1 }) c.window).1.r.held.map pceCells),ownF w.heap.size (.slice v6a ((pump ({ c with s := (queued c.s text).1 }) c.window).2.length) v6c) 13 ((pump ({ c with s := (queued c.s text).1 }) c.window).2.map segCells),slF (.slice Acrh c.r.held.length Ccrh) 2 (c.r.held.map pceCells)]⟩ (by kernel_rfl) ?_
  refine xw_ret ?_
  have hmod : write c text = (((pump ({ c with s := (queued c.s text).1 }) c.window).1),((queued c.s text).2),((pump ({ c with s := (queued c.s text).1 }) c.window).2)) := by first | rfl | (simp [write, *]; done) | grind [write]
  exact ⟨[.agg (conL (pump ({ c with s := (queued c.s text).1 }) c.window).1 (.slice v5a ((pump ({ c with s := (queued c.s text).1 }) c.window).1.r.held.length) v5c)).toArray,.int .i64 ((queued c.s text).2),.slice v6a ((pump ({ c with s := (queued c.s text).1 }) c.window).2.length) v6c],by kernel_rfl,fun w' hb hf ha => by rw [hmod]; exact xr_two ((v5a,v5c),(v6a,v6c)) rfl rfl (ownF_ownF (hf (ownF w.heap.size (.slice v5a ((pump ({ c with s := (queued c.s text).1 }) c.window).1.r.held.length) v5c) 2 ((pump ({ c with s := (queued c.s text).1 }) c.window).1.r.held.map pceCells)) (by simp)) hB) (fun b hb => ownF_lo (hf (ownF w.heap.size (.slice v5a ((pump ({ c with s := (queued c.s text).1 }) c.window).1.r.held.length) v5c) 2 ((pump ({ c with s := (queued c.s text).1 }) c.window).1.r.held.map pceCells)) (by simp)) hb) (ownF_ownF (hf (ownF w.heap.size (.slice v6a ((pump ({ c with s := (queued c.s text).1 }) c.window).2.length) v6c) 13 ((pump ({ c with s := (queued c.s text).1 }) c.window).2.map segCells)) (by simp)) hB) (fun b hb => ownF_lo (hf (ownF w.heap.size (.slice v6a ((pump ({ c with s := (queued c.s text).1 }) c.window).2.length) v6c) 13 ((pump ({ c with s := (queued c.s text).1 }) c.window).2.map segCells)) (by simp)) hb) (Apart.sub2 ha (i := 0) (j := 1) rfl rfl (by decide) rfl (fun b h => h) (fun b h => h)) hb⟩
end Go.Proofs.Ytjfamgkkenccdaa
