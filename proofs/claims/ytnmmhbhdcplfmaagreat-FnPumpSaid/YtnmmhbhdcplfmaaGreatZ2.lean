/- Contracts that this law needs, part 2. -/
import Derived.Test.YtnmmhbhdcplfmaaGreatZ1
namespace Go.Proofs.YtnmmhbhdcplfmaaGreat
open Go.RowKit
set_option linter.unusedVariables false
set_option linter.unusedSimpArgs false
set_option maxRecDepth 100000
set_option maxHeartbeats 2000000

theorem ysArrived_c (r : Rcv) (r_heldV : Value) (seq : Int) (text : ByteArray) (fin : Bool) (w : World) (hl_r_heldV : Sl w r_heldV 2 (r.held.map pceCells)) (hkn : r.held.length ≤ 1048576) (hm : ∀ p ∈ r.held, p.text.size ≤ 1048576) (hsz : r.data.size ≤ 4611686018427387904) (hts : text.size ≤ 4611686018427387904) (B : Nat) (hB : B ≤ w.heap.size) : Calls Tryz.prog 139 #[.agg (rcvL r r_heldV).toArray, .int .i64 seq, .string text, .bool fin] w fun e w' => XRs w w' e (α := Option Addr × Nat) (fun y => .agg (rcvL (arrived r seq text fin) (.slice y.1 ((arrived r seq text fin).held.length) y.2)).toArray) (fun y => [rowF B 108 2 (.slice y.1 ((arrived r seq text fin).held.length) y.2) ((arrived r seq text fin).held.map pceCells)]) := by
 obtain ⟨Arh,Crh,hvrh⟩ := hl_r_heldV.form
 rw [List.length_map] at hvrh; subst hvrh
 have hnrh := hl_r_heldV.len; rw [List.length_map] at hnrh
 have hqrh := Sl.capLe hl_r_heldV
 refine x_callsA (args := [.agg (rcvL r (.slice Arh r.held.length Crh)).toArray,.int .i64 seq,.string text,.bool fin]) (fn := Tryz.f139) [slF (.slice Arh r.held.length Crh) 2 (r.held.map pceCells)] Tryz.func139 rfl Tryz.ntmps139 rfl (by simp only [List.mem_cons,List.not_mem_nil,or_false,forall_eq_or_imp,forall_eq]; exact ⟨rfl,hl_r_heldV⟩) ?_
 refine kQ ?_
 refine kEF [1,2,3,4,8] ⟨[(1,.v (.int .i64 seq)),(2,.v (.string text)),(3,.v (.bool fin)),(4,.p 0 0),(8,.p 1 0)],[⟨30,rcvL r (.slice Arh r.held.length Crh)⟩,⟨30,rcvZ⟩],[],[slF (.slice Arh r.held.length Crh) 2 (r.held.map pceCells)]⟩ ?_
 refine kQ ?_
 refine kCD 1 [1,2,3,4,8,17] [(17,.v (.agg (rcvL r (.slice Arh r.held.length Crh)).toArray))] 115 [.agg (rcvL r (.slice Arh r.held.length Crh)).toArray] (some 18) rfl (xc_r fun ww hw hf => yl18Copy_c r (.slice Arh r.held.length Crh) ww (hf _ m0) (by assumption) w.heap.size hw) ?_
 rintro ⟨v1a,v1c⟩
 refine kEA [1,2,3,4,8,9] [(9,.p 2 0)] [⟨30,rcvL r (.slice v1a r.held.length v1c)⟩] ?_
 refine kS ?_
 refine kQ ?_
 refine kCD 1 [1,2,3,4,8,9,19] [(19,.v (.agg (rcvL r (.slice Arh r.held.length Crh)).toArray))] 76 [.agg (rcvL r (.slice Arh r.held.length Crh)).toArray] (some 20) rfl (xc_b fun ww hf => ysReceiverOk_c r (.slice Arh r.held.length Crh) ww (hf _ m1) (by assumption) (by omega)) ?_
 intro _
 refine kRD 2 [1,2,3,4,8,9,22] [(22,.v (.bool (!(receiverOk r))))] ?_
 refine kP 22 (!(receiverOk r)) (fun h2 => ?_) (fun h2 => ?_)
 have h2n := not_t h2
 refine kED [1,2,3,4,8,9,25] [(25,.v (.bool true))] ?_
 refine kT ?_
 refine kQ ?_
 refine kEU [8] [(8,.p 1 0)] 1 ⟨30,rcvL r (.slice v1a r.held.length v1c)⟩ ?_
 refine kR ?_
 have hmod : arrived r seq text fin = r := by first | exact arrived_over hrk (by assumption) (by rw [← hall,← hnf]; omega) | (unfold arrived; rw [if_neg (by grind)]; done) | (unfold arrived; rw [if_pos (by grind),← hall,← hnf,← hg2,← hfp]; first | (rw [if_pos (by omega)]; done) | (rw [if_neg (by omega),if_pos (by first | omega | simp_all)]; done) | (rw [if_neg (by omega),if_neg (by first | omega | simp_all)]; done))
 exact ⟨[.agg (rcvL r (.slice v1a r.held.length v1c)).toArray],by kernel_rfl,fun w' hb hf ha => by rw [hmod]; exact xo1 ((v1a,v1c)) rfl rfl (pW (hf _ m0) hB) hb⟩
 have h2n := not_f h2
 have hrk := h2n
 obtain ⟨hf0,hf1,hf2,hf3,hf4,hheld⟩ := rok_facts h2n
 have hwb := windowOf_bd r
 have hN := slotsOf_len r
 have hsqt := seqAdd_in seq (text.size : Int)
 refine kED [1,2,3,4,8,9,25] [(25,.v (.bool r.done))] ?_
 refine kC (r.done) (fun h3 => ?_) (fun h3 => ?_)
 refine kQ ?_
 refine kEU [8] [(8,.p 1 0)] 1 ⟨30,rcvL r (.slice v1a r.held.length v1c)⟩ ?_
 refine kR ?_
 have hmod : arrived r seq text fin = r := by first | exact arrived_over hrk (by assumption) (by rw [← hall,← hnf]; omega) | (unfold arrived; rw [if_neg (by grind)]; done) | (unfold arrived; rw [if_pos (by grind),← hall,← hnf,← hg2,← hfp]; first | (rw [if_pos (by omega)]; done) | (rw [if_neg (by omega),if_pos (by first | omega | simp_all)]; done) | (rw [if_neg (by omega),if_neg (by first | omega | simp_all)]; done))
 exact ⟨[.agg (rcvL r (.slice v1a r.held.length v1c)).toArray],by kernel_rfl,fun w' hb hf ha => by rw [hmod]; exact xo1 ((v1a,v1c)) rfl rfl (pW (hf _ m0) hB) hb⟩
 refine kK ?_
 refine kQ ?_
 refine kCD 1 [1,2,3,4,8,9,27] [(27,.v (.agg (rcvL r (.slice Arh r.held.length Crh)).toArray))] 53 [.agg (rcvL r (.slice Arh r.held.length Crh)).toArray] (some 28) rfl (xc_b fun ww hf => sWindowOf_c r.next r.data r.held (.slice Arh r.held.length Crh) r.fin r.done ww (by omega)) ?_
 intro _
 refine kED [1,2,3,4,8,9,10] [(10,.v (.int .i64 (windowOf r)))] ?_
 refine kQ ?_
 refine kCD 1 [1,2,3,4,8,9,10,29] [(29,.v (.agg (rcvL r (.slice Arh r.held.length Crh)).toArray))] 141 [.agg (rcvL r (.slice Arh r.held.length Crh)).toArray] (some 30) rfl (xc_r fun ww hw hf => yl18Slots_c r (.slice Arh r.held.length Crh) ww (hf _ m1) (by assumption) (by assumption) w.heap.size hw) ?_
 rintro ⟨v4a,v4c⟩
 refine kED [1,2,3,4,8,9,10,11] [(11,.v (.slice v4a ((slotsOf r).length) v4c))] ?_
 refine kS ?_
 refine kQ ?_
 refine kED [1,2,3,4,8,9,10,11,12] [(12,.v (.int .i64 0))] ?_
 refine xw_block ?_
 refine xw_know (φ := ∃ g,True → v4a = some ⟨g,0,none⟩) (fun _ _ _ _ hr => know_row hr (K := 1) (rs := (slotsOf r).map intRow) 0 rfl (j := 0) (row := intRow ((slotsOf r)[0]'(by omega))) (fun _ => by rw [List.getElem?_map,List.getElem?_eq_getElem (by omega)]; rfl)) ?_
 rintro ⟨gg,hgg⟩
 refine xw_loopW (α := {x : Nat × List Int // (fun (i : Nat) (sl : List Int) => i ≤ text.size ∧ sl.length = 33 ∧ sl = textN r seq text (slotsOf r) i) x.1 x.2}) (fun x => (fun (i : Nat) (sl : List Int) => (⟨[(1,.v (.int .i64 seq)),(2,.v (.string text)),(3,.v (.bool fin)),(4,.p 0 0),(8,.p 1 0),(9,.p 2 0),(10,.v (.int .i64 (windowOf r))),(11,.v (.slice v4a ((slotsOf r).length) v4c)),(12,.v (.int .i64 (i : Int)))],[⟨30,rcvL r (.slice Arh r.held.length Crh)⟩,⟨30,rcvZ⟩,⟨30,rcvL r (.slice v1a r.held.length v1c)⟩],[],[rowF w.heap.size 3 1 (.slice v4a ((slotsOf r).length) v4c) (sl.map intRow),rowF w.heap.size 108 2 (.slice v1a r.held.length v1c) (r.held.map pceCells),slF (.slice Arh r.held.length Crh) 2 (r.held.map pceCells)]⟩ : St)) x.1.1 x.1.2) (fun x => (fun (i : Nat) (sl : List Int) => text.size - i) x.1.1 x.1.2) ⟨(0,(slotsOf r)),⟨Nat.zero_le _,hN,rfl⟩⟩ ((wk_pick [0,1,2] [rowF w.heap.size 3 1 (.slice v4a ((slotsOf r).length) v4c) ((slotsOf r).map intRow),rowF w.heap.size 108 2 (.slice v1a r.held.length v1c) (r.held.map pceCells),slF (.slice Arh r.held.length Crh) 2 (r.held.map pceCells)] (by kernel_rfl) (by kernel_rfl)).trans <| kF 3 0 [1,2,3,4,8,9,10,11,12]) ?_
 rintro ⟨⟨i,sl⟩,hi,hl,HS⟩
 try dsimp only
 try dsimp only at hi hl HS
 refine kS ?_
 refine kQ ?_
 refine kES [1,2,3,4,8,9,10,11,12,34] [(1,.v (.int .i64 seq)),(2,.v (.string text)),(3,.v (.bool fin)),(4,.p 0 0),(8,.p 1 0),(9,.p 2 0),(10,.v (.int .i64 (windowOf r))),(11,.v (.slice v4a ((slotsOf r).length) v4c)),(12,.v (.int .i64 (i : Int))),(34,.v (.bool (decide ((i : Int) < (text.size : Int)))))] ?_
 refine kC (decide ((i : Int) < (text.size : Int))) (fun h5 => ?_) (fun h5 => ?_)
 have h5p := of_decide_eq_true h5
 have hlti : i < text.size := by simpa using h5
 have hbt := byteAt_rng text i
 have hsq := seqAdd_in seq (i : Int)
 refine kK ?_
 refine kS ?_
 refine xw_block ?_
 refine kS ?_
 refine xe_region0 [] (by kernel_rfl) (fun ρ σ => ?_)
 refine kTS [0,1,3,4] [41,38,37,1,2,3,4,8,9,10,11,12] 4 [(41,.v (.int .i64 r.next)),(38,.v (.int .i64 (i : Int))),(37,.v (.int .i64 seq)),(1,.v (.int .i64 seq)),(2,.v (.string text)),(3,.v (.bool fin)),(4,.p 0 0),(8,.p 1 0),(9,.p 2 0),(10,.v (.int .i64 (windowOf r))),(11,.v (.slice v4a ((slotsOf r).length) v4c)),(12,.v (.int .i64 (i : Int)))] ?_
 refine kA [2] ?_
 refine kSC 2 60 [.int .i64 seq,.int .i64 (i : Int)] (some 39) rfl (xc_s fun ww hf => sSeqAdd_c seq (i : Int) ww ) ?_
 intro _
 refine kTS [5] [42,1,2,3,4,8,9,10,11,12] 2 [(42,.v (.int .i64 (IntKind.i64.wrap ((seqAdd seq (i : Int)) - r.next)))),(1,.v (.int .i64 seq)),(2,.v (.string text)),(3,.v (.bool fin)),(4,.p 0 0),(8,.p 1 0),(9,.p 2 0),(10,.v (.int .i64 (windowOf r))),(11,.v (.slice v4a ((slotsOf r).length) v4c)),(12,.v (.int .i64 (i : Int)))] ?_
 refine xe_eqS (t := [(42,.v (.int .i64 (IntKind.i64.wrap ((seqAdd seq (i : Int)) - r.next)))),(1,.v (.int .i64 seq)),(2,.v (.string text)),(3,.v (.bool fin)),(4,.p 0 0),(8,.p 1 0),(9,.p 2 0),(10,.v (.int .i64 (windowOf r))),(11,.v (.slice v4a ((slotsOf r).length) v4c)),(12,.v (.int .i64 (i : Int)))]) (t' := [(42,.v (.int .i64 ((seqAdd seq (i : Int)) - r.next))),(1,.v (.int .i64 seq)),(2,.v (.string text)),(3,.v (.bool fin)),(4,.p 0 0),(8,.p 1 0),(9,.p 2 0),(10,.v (.int .i64 (windowOf r))),(11,.v (.slice v4a ((slotsOf r).length) v4c)),(12,.v (.int .i64 (i : Int)))]) (by rw [show (IntKind.i64.wrap ((seqAdd seq (i : Int)) - r.next)) = ((seqAdd seq (i : Int)) - r.next) from wrap_id (by omega) (by omega)]) ?_
 refine kA [6] ?_
 refine kSC 6 104 [.int .i64 ((seqAdd seq (i : Int)) - r.next)] (some 43) rfl (xc_s fun ww hf => sRest_c ((seqAdd seq (i : Int)) - r.next) ww ) ?_
 intro _
 refine xe_eqS (t := [(43,.v (.int .i64 (((seqAdd seq (i : Int)) - r.next) % 4294967296))),(42,.v (.int .i64 ((seqAdd seq (i : Int)) - r.next))),(1,.v (.int .i64 seq)),(2,.v (.string text)),(3,.v (.bool fin)),(4,.p 0 0),(8,.p 1 0),(9,.p 2 0),(10,.v (.int .i64 (windowOf r))),(11,.v (.slice v4a ((slotsOf r).length) v4c)),(12,.v (.int .i64 (i : Int)))]) (t' := [(43,.v (.int .i64 ((offN r seq i : Nat) : Int))),(42,.v (.int .i64 ((seqAdd seq (i : Int)) - r.next))),(1,.v (.int .i64 seq)),(2,.v (.string text)),(3,.v (.bool fin)),(4,.p 0 0),(8,.p 1 0),(9,.p 2 0),(10,.v (.int .i64 (windowOf r))),(11,.v (.slice v4a ((slotsOf r).length) v4c)),(12,.v (.int .i64 (i : Int)))]) (by rw [show (((seqAdd seq (i : Int)) - r.next) % 4294967296) = ((offN r seq i : Nat) : Int) from offN_eq r seq i]) ?_
 refine kTS [7] [13,1,2,3,4,8,9,10,11,12] 0 [(13,.v (.int .i64 ((offN r seq i : Nat) : Int))),(1,.v (.int .i64 seq)),(2,.v (.string text)),(3,.v (.bool fin)),(4,.p 0 0),(8,.p 1 0),(9,.p 2 0),(10,.v (.int .i64 (windowOf r))),(11,.v (.slice v4a ((slotsOf r).length) v4c)),(12,.v (.int .i64 (i : Int)))] ?_
 refine kZ ?_
 refine kQ ?_
 refine kRD 4 [1,2,3,4,8,9,10,11,12,13,47] [(47,.v (.bool (decide (((offN r seq i : Nat) : Int) < (windowOf r)))))] ?_
 refine kP 47 (decide (((offN r seq i : Nat) : Int) < (windowOf r))) (fun h6 => ?_) (fun h6 => ?_)
 have h6p := of_decide_eq_true h6
 obtain ⟨x,hx⟩ : ∃ x,sl[offN r seq i]? = some x := ⟨_,List.getElem?_eq_getElem (by omega)⟩
 have hsx := slotAt_of hx
 refine kRD 4 [1,2,3,4,8,9,10,11,12,13,47,51] [(47,.v (.bool true)),(51,.v (.bool (decide (r.fin < 0))))] ?_
 refine kP 51 (decide (r.fin < 0)) (fun h7 => ?_) (fun h7 => ?_)
 have h7p := of_decide_eq_true h7
 refine kOD 9 [1,2,3,4,8,9,10,11,12,13,58,59,60] [(58,.v (.bool true)),(59,.v (.slice v4a ((slotsOf r).length) v4c)),(60,.v (.int .i64 ((offN r seq i : Nat) : Int)))] (.pointer (some ⟨gg,(offN r seq i) * 1,none⟩)) rfl (fun _ _ _ ww hr => act_ix (kd := .i64) (T := 73) (e := 3) (K := 1) (g := gg) (N := ((slotsOf r).length)) (cap := v4c) (offN r seq i) (hgg trivial) hr.1 rfl rfl (by kernel_rfl) (by kernel_rfl) (by kernel_rfl) (by omega) ww) ?_
 refine kOD 0 [1,2,3,4,8,9,10,11,12,13,58,61] [] (.int .i64 x) rfl (fun _ _ _ ww hr => ldR_run (po := 0) (j := (offN r seq i)) (row := [.int .i64 x]) (rowF w.heap.size 3 1 (.slice v4a ((slotsOf r).length) v4c) (sl.map intRow)) hr rfl (by kernel_rfl) (by simp) (by simp only [List.getElem?_map,hx]; rfl) (by kernel_rfl) (hgg trivial) rfl rfl) ?_
 refine kED [1,2,3,4,8,9,10,11,12,13,64] [(64,.v (.bool (decide (x < 0))))] ?_
 refine kC (decide (x < 0)) (fun h8 => ?_) (fun h8 => ?_)
 have h8p := of_decide_eq_true h8
 refine kG ?_
 refine kOD 4 [1,2,3,4,8,9,10,11,12,65,66,67,68] [(65,.v (.slice v4a ((slotsOf r).length) v4c)),(66,.v (.int .i64 ((offN r seq i : Nat) : Int))),(67,.v (.string text)),(68,.v (.int .i64 (i : Int)))] (.int .u8 (byteAt text i)) rfl (fun _ _ _ ww hr => act_tix (kd := .i64) (t := text) i hr.1 rfl rfl (by kernel_rfl) (by kernel_rfl) hlti ww) ?_
 refine kOD 1 [1,2,3,4,8,9,10,11,12,65,66,70] [(70,.v (.int .i64 (IntKind.i64.wrap (byteAt text i))))] (.pointer (some ⟨gg,(offN r seq i) * 1,none⟩)) rfl (fun _ _ _ ww hr => act_ix (kd := .i64) (T := 73) (e := 3) (K := 1) (g := gg) (N := ((slotsOf r).length)) (cap := v4c) (offN r seq i) (hgg trivial) hr.1 rfl rfl (by kernel_rfl) (by kernel_rfl) (by kernel_rfl) (by omega) ww) ?_
 refine xl_hs 0 [1,2,3,4,8,9,10,11,12,70,71] ⟨[(1,.v (.int .i64 seq)),(2,.v (.string text)),(3,.v (.bool fin)),(4,.p 0 0),(8,.p 1 0),(9,.p 2 0),(10,.v (.int .i64 (windowOf r))),(11,.v (.slice v4a ((slotsOf r).length) v4c)),(12,.v (.int .i64 (i : Int))),(70,.v (.int .i64 (IntKind.i64.wrap (byteAt text i)))),(71,.v (.pointer (some ⟨gg,(offN r seq i) * 1,none⟩)))],[⟨30,rcvL r (.slice Arh r.held.length Crh)⟩,⟨30,rcvZ⟩,⟨30,rcvL r (.slice v1a r.held.length v1c)⟩],[],[rowF w.heap.size 3 1 (.slice v4a ((slotsOf r).length) v4c) (sl.map intRow),rowF w.heap.size 108 2 (.slice v1a r.held.length v1c) (r.held.map pceCells),slF (.slice Arh r.held.length Crh) 2 (r.held.map pceCells)]⟩ (by kernel_rfl) rfl (by kernel_rfl) rfl (by kernel_rfl) (HSg.hs (hs_stR (g := gg) (B := w.heap.size) (e := 3) (K := 1) (N := ((slotsOf r).length)) (cap := v4c) (rs := (sl.map intRow)) (rs' := (sl.set (offN r seq i) (IntKind.i64.wrap (byteAt text i))).map intRow) (v := (.int .i64 (IntKind.i64.wrap (byteAt text i)))) (i := 0) (off := (offN r seq i) * 1) (offN r seq i) 0 [.int .i64 x] (row' := [.int .i64 (IntKind.i64.wrap (byteAt text i))]) (hgg trivial) rfl (by kernel_rfl) rfl (by kernel_rfl) (by kernel_rfl) (by kernel_rfl) (by kernel_rfl) (Nat.le_refl _) (by simp only [List.getElem?_map,hx]; rfl) (by kernel_rfl) rfl (by rw [List.map_set]; rfl))) ?_
 refine kRS 0 [1,2,3,4,8,9,10,11,12] [(1,.v (.int .i64 seq)),(2,.v (.string text)),(3,.v (.bool fin)),(4,.p 0 0),(8,.p 1 0),(9,.p 2 0),(10,.v (.int .i64 (windowOf r))),(11,.v (.slice v4a ((slotsOf r).length) v4c)),(12,.v (.int .i64 (i : Int)))] ?_
 refine xl_eq (st' := ⟨[(1,.v (.int .i64 seq)),(2,.v (.string text)),(3,.v (.bool fin)),(4,.p 0 0),(8,.p 1 0),(9,.p 2 0),(10,.v (.int .i64 (windowOf r))),(11,.v (.slice v4a ((slotsOf r).length) v4c)),(12,.v (.int .i64 (i : Int)))],[⟨30,rcvL r (.slice Arh r.held.length Crh)⟩,⟨30,rcvZ⟩,⟨30,rcvL r (.slice v1a r.held.length v1c)⟩],[],[rowF w.heap.size 3 1 (.slice v4a ((slotsOf r).length) v4c) ((sl.set (offN r seq i) (byteAt text i)).map intRow),rowF w.heap.size 108 2 (.slice v1a r.held.length v1c) (r.held.map pceCells),slF (.slice Arh r.held.length Crh) 2 (r.held.map pceCells)]⟩) (by rw [show (IntKind.i64.wrap (byteAt text i)) = (byteAt text i) from wrap_id (by omega) (by omega)] <;> rfl) ?_
 refine kED [1,2,3,4,8,9,10,11,12] [] ?_
 refine kG ?_
 refine kRS 3 [1,2,3,4,8,9,10,11,12] [(1,.v (.int .i64 seq)),(2,.v (.string text)),(3,.v (.bool fin)),(4,.p 0 0),(8,.p 1 0),(9,.p 2 0),(10,.v (.int .i64 (windowOf r))),(11,.v (.slice v4a ((slotsOf r).length) v4c)),(12,.v (.int .i64 (IntKind.i64.wrap ((i : Int) + 1))))] ?_
 refine xl_eqS (t' := [(1,.v (.int .i64 seq)),(2,.v (.string text)),(3,.v (.bool fin)),(4,.p 0 0),(8,.p 1 0),(9,.p 2 0),(10,.v (.int .i64 (windowOf r))),(11,.v (.slice v4a ((slotsOf r).length) v4c)),(12,.v (.int .i64 ((i : Int) + 1)))]) (by rw [show (IntKind.i64.wrap ((i : Int) + 1)) = ((i : Int) + 1) from wrap_id (by omega) (by omega)]) ?_
 refine kED [1,2,3,4,8,9,10,11,12] [] ?_
 exact ⟨⟨(i + 1,(sl.set (offN r seq i) (byteAt text i))),⟨hlti,(by rw [List.length_set]; exact hl),(by rw [textN,← HS,textStep_eq]; first | (rw [if_pos (by refine ⟨by omega,by omega,?_⟩; rw [hsx]; omega)]) | (rw [if_neg (by intro hh; have hh1 := hh.1; have hh2 := hh.2.1; have hh3 := hh.2.2; (try rw [hsx] at hh3); omega)]))⟩⟩,kF 3 0 [1,2,3,4,8,9,10,11,12],by show (fun (i : Nat) (sl : List Int) => text.size - i) (i + 1) (sl.set (offN r seq i) (byteAt text i)) < text.size - i; (dsimp only; omega)⟩
 have h8p := of_decide_eq_false h8
 refine kK ?_
 refine kG ?_
 refine kRS 3 [1,2,3,4,8,9,10,11,12] [(1,.v (.int .i64 seq)),(2,.v (.string text)),(3,.v (.bool fin)),(4,.p 0 0),(8,.p 1 0),(9,.p 2 0),(10,.v (.int .i64 (windowOf r))),(11,.v (.slice v4a ((slotsOf r).length) v4c)),(12,.v (.int .i64 (IntKind.i64.wrap ((i : Int) + 1))))] ?_
 refine xl_eqS (t' := [(1,.v (.int .i64 seq)),(2,.v (.string text)),(3,.v (.bool fin)),(4,.p 0 0),(8,.p 1 0),(9,.p 2 0),(10,.v (.int .i64 (windowOf r))),(11,.v (.slice v4a ((slotsOf r).length) v4c)),(12,.v (.int .i64 ((i : Int) + 1)))]) (by rw [show (IntKind.i64.wrap ((i : Int) + 1)) = ((i : Int) + 1) from wrap_id (by omega) (by omega)]) ?_
 refine kED [1,2,3,4,8,9,10,11,12] [] ?_
 exact ⟨⟨(i + 1,sl),⟨hlti,hl,(by rw [textN,← HS,textStep_eq]; first | (rw [if_pos (by refine ⟨by omega,by omega,?_⟩; rw [hsx]; omega)]) | (rw [if_neg (by intro hh; have hh1 := hh.1; have hh2 := hh.2.1; have hh3 := hh.2.2; (try rw [hsx] at hh3); omega)]))⟩⟩,kF 3 0 [1,2,3,4,8,9,10,11,12],by show (fun (i : Nat) (sl : List Int) => text.size - i) (i + 1) sl < text.size - i; (dsimp only; omega)⟩
 have h7p := of_decide_eq_false h7
 refine kRD 7 [1,2,3,4,8,9,10,11,12,13,58] [(58,.v (.bool (decide (((offN r seq i : Nat) : Int) < r.fin))))] ?_
 refine kP 58 (decide (((offN r seq i : Nat) : Int) < r.fin)) (fun h9 => ?_) (fun h9 => ?_)
 have h9p := of_decide_eq_true h9
 refine kOD 2 [1,2,3,4,8,9,10,11,12,13,58,59,60] [(58,.v (.bool true)),(59,.v (.slice v4a ((slotsOf r).length) v4c)),(60,.v (.int .i64 ((offN r seq i : Nat) : Int)))] (.pointer (some ⟨gg,(offN r seq i) * 1,none⟩)) rfl (fun _ _ _ ww hr => act_ix (kd := .i64) (T := 73) (e := 3) (K := 1) (g := gg) (N := ((slotsOf r).length)) (cap := v4c) (offN r seq i) (hgg trivial) hr.1 rfl rfl (by kernel_rfl) (by kernel_rfl) (by kernel_rfl) (by omega) ww) ?_
 refine kOD 0 [1,2,3,4,8,9,10,11,12,13,58,61] [] (.int .i64 x) rfl (fun _ _ _ ww hr => ldR_run (po := 0) (j := (offN r seq i)) (row := [.int .i64 x]) (rowF w.heap.size 3 1 (.slice v4a ((slotsOf r).length) v4c) (sl.map intRow)) hr rfl (by kernel_rfl) (by simp) (by simp only [List.getElem?_map,hx]; rfl) (by kernel_rfl) (hgg trivial) rfl rfl) ?_
 refine kED [1,2,3,4,8,9,10,11,12,13,64] [(64,.v (.bool (decide (x < 0))))] ?_
 refine kC (decide (x < 0)) (fun h10 => ?_) (fun h10 => ?_)
 have h10p := of_decide_eq_true h10
 refine kG ?_
 refine kOD 4 [1,2,3,4,8,9,10,11,12,65,66,67,68] [(65,.v (.slice v4a ((slotsOf r).length) v4c)),(66,.v (.int .i64 ((offN r seq i : Nat) : Int))),(67,.v (.string text)),(68,.v (.int .i64 (i : Int)))] (.int .u8 (byteAt text i)) rfl (fun _ _ _ ww hr => act_tix (kd := .i64) (t := text) i hr.1 rfl rfl (by kernel_rfl) (by kernel_rfl) hlti ww) ?_
 refine kOD 1 [1,2,3,4,8,9,10,11,12,65,66,70] [(70,.v (.int .i64 (IntKind.i64.wrap (byteAt text i))))] (.pointer (some ⟨gg,(offN r seq i) * 1,none⟩)) rfl (fun _ _ _ ww hr => act_ix (kd := .i64) (T := 73) (e := 3) (K := 1) (g := gg) (N := ((slotsOf r).length)) (cap := v4c) (offN r seq i) (hgg trivial) hr.1 rfl rfl (by kernel_rfl) (by kernel_rfl) (by kernel_rfl) (by omega) ww) ?_
 refine xl_hs 0 [1,2,3,4,8,9,10,11,12,70,71] ⟨[(1,.v (.int .i64 seq)),(2,.v (.string text)),(3,.v (.bool fin)),(4,.p 0 0),(8,.p 1 0),(9,.p 2 0),(10,.v (.int .i64 (windowOf r))),(11,.v (.slice v4a ((slotsOf r).length) v4c)),(12,.v (.int .i64 (i : Int))),(70,.v (.int .i64 (IntKind.i64.wrap (byteAt text i)))),(71,.v (.pointer (some ⟨gg,(offN r seq i) * 1,none⟩)))],[⟨30,rcvL r (.slice Arh r.held.length Crh)⟩,⟨30,rcvZ⟩,⟨30,rcvL r (.slice v1a r.held.length v1c)⟩],[],[rowF w.heap.size 3 1 (.slice v4a ((slotsOf r).length) v4c) (sl.map intRow),rowF w.heap.size 108 2 (.slice v1a r.held.length v1c) (r.held.map pceCells),slF (.slice Arh r.held.length Crh) 2 (r.held.map pceCells)]⟩ (by kernel_rfl) rfl (by kernel_rfl) rfl (by kernel_rfl) (HSg.hs (hs_stR (g := gg) (B := w.heap.size) (e := 3) (K := 1) (N := ((slotsOf r).length)) (cap := v4c) (rs := (sl.map intRow)) (rs' := (sl.set (offN r seq i) (IntKind.i64.wrap (byteAt text i))).map intRow) (v := (.int .i64 (IntKind.i64.wrap (byteAt text i)))) (i := 0) (off := (offN r seq i) * 1) (offN r seq i) 0 [.int .i64 x] (row' := [.int .i64 (IntKind.i64.wrap (byteAt text i))]) (hgg trivial) rfl (by kernel_rfl) rfl (by kernel_rfl) (by kernel_rfl) (by kernel_rfl) (by kernel_rfl) (Nat.le_refl _) (by simp only [List.getElem?_map,hx]; rfl) (by kernel_rfl) rfl (by rw [List.map_set]; rfl))) ?_
 refine kRS 0 [1,2,3,4,8,9,10,11,12] [(1,.v (.int .i64 seq)),(2,.v (.string text)),(3,.v (.bool fin)),(4,.p 0 0),(8,.p 1 0),(9,.p 2 0),(10,.v (.int .i64 (windowOf r))),(11,.v (.slice v4a ((slotsOf r).length) v4c)),(12,.v (.int .i64 (i : Int)))] ?_
 refine xl_eq (st' := ⟨[(1,.v (.int .i64 seq)),(2,.v (.string text)),(3,.v (.bool fin)),(4,.p 0 0),(8,.p 1 0),(9,.p 2 0),(10,.v (.int .i64 (windowOf r))),(11,.v (.slice v4a ((slotsOf r).length) v4c)),(12,.v (.int .i64 (i : Int)))],[⟨30,rcvL r (.slice Arh r.held.length Crh)⟩,⟨30,rcvZ⟩,⟨30,rcvL r (.slice v1a r.held.length v1c)⟩],[],[rowF w.heap.size 3 1 (.slice v4a ((slotsOf r).length) v4c) ((sl.set (offN r seq i) (byteAt text i)).map intRow),rowF w.heap.size 108 2 (.slice v1a r.held.length v1c) (r.held.map pceCells),slF (.slice Arh r.held.length Crh) 2 (r.held.map pceCells)]⟩) (by rw [show (IntKind.i64.wrap (byteAt text i)) = (byteAt text i) from wrap_id (by omega) (by omega)] <;> rfl) ?_
 refine kED [1,2,3,4,8,9,10,11,12] [] ?_
 refine kG ?_
 refine kRS 3 [1,2,3,4,8,9,10,11,12] [(1,.v (.int .i64 seq)),(2,.v (.string text)),(3,.v (.bool fin)),(4,.p 0 0),(8,.p 1 0),(9,.p 2 0),(10,.v (.int .i64 (windowOf r))),(11,.v (.slice v4a ((slotsOf r).length) v4c)),(12,.v (.int .i64 (IntKind.i64.wrap ((i : Int) + 1))))] ?_
 refine xl_eqS (t' := [(1,.v (.int .i64 seq)),(2,.v (.string text)),(3,.v (.bool fin)),(4,.p 0 0),(8,.p 1 0),(9,.p 2 0),(10,.v (.int .i64 (windowOf r))),(11,.v (.slice v4a ((slotsOf r).length) v4c)),(12,.v (.int .i64 ((i : Int) + 1)))]) (by rw [show (IntKind.i64.wrap ((i : Int) + 1)) = ((i : Int) + 1) from wrap_id (by omega) (by omega)]) ?_
 refine kED [1,2,3,4,8,9,10,11,12] [] ?_
 exact ⟨⟨(i + 1,(sl.set (offN r seq i) (byteAt text i))),⟨hlti,(by rw [List.length_set]; exact hl),(by rw [textN,← HS,textStep_eq]; first | (rw [if_pos (by refine ⟨by omega,by omega,?_⟩; rw [hsx]; omega)]) | (rw [if_neg (by intro hh; have hh1 := hh.1; have hh2 := hh.2.1; have hh3 := hh.2.2; (try rw [hsx] at hh3); omega)]))⟩⟩,kF 3 0 [1,2,3,4,8,9,10,11,12],by show (fun (i : Nat) (sl : List Int) => text.size - i) (i + 1) (sl.set (offN r seq i) (byteAt text i)) < text.size - i; (dsimp only; omega)⟩
 have h10p := of_decide_eq_false h10
 refine kK ?_
 refine kG ?_
 refine kRS 3 [1,2,3,4,8,9,10,11,12] [(1,.v (.int .i64 seq)),(2,.v (.string text)),(3,.v (.bool fin)),(4,.p 0 0),(8,.p 1 0),(9,.p 2 0),(10,.v (.int .i64 (windowOf r))),(11,.v (.slice v4a ((slotsOf r).length) v4c)),(12,.v (.int .i64 (IntKind.i64.wrap ((i : Int) + 1))))] ?_
 refine xl_eqS (t' := [(1,.v (.int .i64 seq)),(2,.v (.string text)),(3,.v (.bool fin)),(4,.p 0 0),(8,.p 1 0),(9,.p 2 0),(10,.v (.int .i64 (windowOf r))),(11,.v (.slice v4a ((slotsOf r).length) v4c)),(12,.v (.int .i64 ((i : Int) + 1)))]) (by rw [show (IntKind.i64.wrap ((i : Int) + 1)) = ((i : Int) + 1) from wrap_id (by omega) (by omega)]) ?_
 refine kED [1,2,3,4,8,9,10,11,12] [] ?_
 exact ⟨⟨(i + 1,sl),⟨hlti,hl,(by rw [textN,← HS,textStep_eq]; first | (rw [if_pos (by refine ⟨by omega,by omega,?_⟩; rw [hsx]; omega)]) | (rw [if_neg (by intro hh; have hh1 := hh.1; have hh2 := hh.2.1; have hh3 := hh.2.2; (try rw [hsx] at hh3); omega)]))⟩⟩,kF 3 0 [1,2,3,4,8,9,10,11,12],by show (fun (i : Nat) (sl : List Int) => text.size - i) (i + 1) sl < text.size - i; (dsimp only; omega)⟩
 have h9p := of_decide_eq_false h9
 refine kED [1,2,3,4,8,9,10,11,12,13,64] [(64,.v (.bool false))] ?_
 refine kN ?_
 refine kK ?_
 refine kG ?_
 refine kRS 3 [1,2,3,4,8,9,10,11,12] [(1,.v (.int .i64 seq)),(2,.v (.string text)),(3,.v (.bool fin)),(4,.p 0 0),(8,.p 1 0),(9,.p 2 0),(10,.v (.int .i64 (windowOf r))),(11,.v (.slice v4a ((slotsOf r).length) v4c)),(12,.v (.int .i64 (IntKind.i64.wrap ((i : Int) + 1))))] ?_
 refine xl_eqS (t' := [(1,.v (.int .i64 seq)),(2,.v (.string text)),(3,.v (.bool fin)),(4,.p 0 0),(8,.p 1 0),(9,.p 2 0),(10,.v (.int .i64 (windowOf r))),(11,.v (.slice v4a ((slotsOf r).length) v4c)),(12,.v (.int .i64 ((i : Int) + 1)))]) (by rw [show (IntKind.i64.wrap ((i : Int) + 1)) = ((i : Int) + 1) from wrap_id (by omega) (by omega)]) ?_
 refine kED [1,2,3,4,8,9,10,11,12] [] ?_
 exact ⟨⟨(i + 1,sl),⟨hlti,hl,(by rw [textN,← HS,textStep_eq]; first | (rw [if_pos (by refine ⟨by omega,by omega,?_⟩; rw [hsx]; omega)]) | (rw [if_neg (by intro hh; have hh1 := hh.1; have hh2 := hh.2.1; have hh3 := hh.2.2; (try rw [hsx] at hh3); omega)]))⟩⟩,kF 3 0 [1,2,3,4,8,9,10,11,12],by show (fun (i : Nat) (sl : List Int) => text.size - i) (i + 1) sl < text.size - i; (dsimp only; omega)⟩
 have h6p := of_decide_eq_false h6
 refine kED [1,2,3,4,8,9,10,11,12,13,64] [(64,.v (.bool false))] ?_
 refine kN ?_
 refine kK ?_
 refine kG ?_
 refine kRS 3 [1,2,3,4,8,9,10,11,12] [(1,.v (.int .i64 seq)),(2,.v (.string text)),(3,.v (.bool fin)),(4,.p 0 0),(8,.p 1 0),(9,.p 2 0),(10,.v (.int .i64 (windowOf r))),(11,.v (.slice v4a ((slotsOf r).length) v4c)),(12,.v (.int .i64 (IntKind.i64.wrap ((i : Int) + 1))))] ?_
 refine xl_eqS (t' := [(1,.v (.int .i64 seq)),(2,.v (.string text)),(3,.v (.bool fin)),(4,.p 0 0),(8,.p 1 0),(9,.p 2 0),(10,.v (.int .i64 (windowOf r))),(11,.v (.slice v4a ((slotsOf r).length) v4c)),(12,.v (.int .i64 ((i : Int) + 1)))]) (by rw [show (IntKind.i64.wrap ((i : Int) + 1)) = ((i : Int) + 1) from wrap_id (by omega) (by omega)]) ?_
 refine kED [1,2,3,4,8,9,10,11,12] [] ?_
 exact ⟨⟨(i + 1,sl),⟨hlti,hl,(by rw [textN,← HS,textStep_eq]; first | (rw [if_pos (by refine ⟨by omega,by omega,?_⟩; rw [hsx]; omega)]) | (rw [if_neg (by intro hh; have hh1 := hh.1; have hh2 := hh.2.1; have hh3 := hh.2.2; (try rw [hsx] at hh3); omega)]))⟩⟩,kF 3 0 [1,2,3,4,8,9,10,11,12],by show (fun (i : Nat) (sl : List Int) => text.size - i) (i + 1) sl < text.size - i; (dsimp only; omega)⟩
 have h5p := of_decide_eq_false h5
 have hti : i = text.size := by simp at h5; omega
 subst hti
 have hall : sl = allIn r seq text := HS
 have hby : ∀ x ∈ sl,x ≤ 255 := by rw [hall]; exact allIn_le _ _ _
 refine xw_exit ?_
 refine kS ?_
 refine xe_region0 [] (by kernel_rfl) (fun ρ σ => ?_)
 refine kTS [0,1,2,4,5] [77,74,72,3,4,8,9,10,11] 4 [(77,.v (.int .i64 r.next)),(74,.v (.int .i64 (text.size : Int))),(72,.v (.int .i64 seq)),(3,.v (.bool fin)),(4,.p 0 0),(8,.p 1 0),(9,.p 2 0),(10,.v (.int .i64 (windowOf r))),(11,.v (.slice v4a ((slotsOf r).length) v4c))] ?_
 refine kA [3] ?_
 refine kSC 3 60 [.int .i64 seq,.int .i64 (text.size : Int)] (some 75) rfl (xc_s fun ww hf => sSeqAdd_c seq (text.size : Int) ww ) ?_
 intro _
 refine kTS [6] [78,3,4,8,9,10,11] 2 [(78,.v (.int .i64 (IntKind.i64.wrap ((seqAdd seq (text.size : Int)) - r.next)))),(3,.v (.bool fin)),(4,.p 0 0),(8,.p 1 0),(9,.p 2 0),(10,.v (.int .i64 (windowOf r))),(11,.v (.slice v4a ((slotsOf r).length) v4c))] ?_
 refine xe_eqS (t := [(78,.v (.int .i64 (IntKind.i64.wrap ((seqAdd seq (text.size : Int)) - r.next)))),(3,.v (.bool fin)),(4,.p 0 0),(8,.p 1 0),(9,.p 2 0),(10,.v (.int .i64 (windowOf r))),(11,.v (.slice v4a ((slotsOf r).length) v4c))]) (t' := [(78,.v (.int .i64 ((seqAdd seq (text.size : Int)) - r.next))),(3,.v (.bool fin)),(4,.p 0 0),(8,.p 1 0),(9,.p 2 0),(10,.v (.int .i64 (windowOf r))),(11,.v (.slice v4a ((slotsOf r).length) v4c))]) (by rw [show (IntKind.i64.wrap ((seqAdd seq (text.size : Int)) - r.next)) = ((seqAdd seq (text.size : Int)) - r.next) from wrap_id (by omega) (by omega)]) ?_
 refine kA [7] ?_
 refine kSC 7 104 [.int .i64 ((seqAdd seq (text.size : Int)) - r.next)] (some 79) rfl (xc_s fun ww hf => sRest_c ((seqAdd seq (text.size : Int)) - r.next) ww ) ?_
 intro _
 refine xe_eqS (t := [(79,.v (.int .i64 (((seqAdd seq (text.size : Int)) - r.next) % 4294967296))),(78,.v (.int .i64 ((seqAdd seq (text.size : Int)) - r.next))),(3,.v (.bool fin)),(4,.p 0 0),(8,.p 1 0),(9,.p 2 0),(10,.v (.int .i64 (windowOf r))),(11,.v (.slice v4a ((slotsOf r).length) v4c))]) (t' := [(79,.v (.int .i64 ((offN r seq text.size : Nat) : Int))),(78,.v (.int .i64 ((seqAdd seq (text.size : Int)) - r.next))),(3,.v (.bool fin)),(4,.p 0 0),(8,.p 1 0),(9,.p 2 0),(10,.v (.int .i64 (windowOf r))),(11,.v (.slice v4a ((slotsOf r).length) v4c))]) (by rw [show (((seqAdd seq (text.size : Int)) - r.next) % 4294967296) = ((offN r seq text.size : Nat) : Int) from offN_eq r seq text.size]) ?_
 refine kTS [8] [14,3,4,8,9,10,11] 0 [(14,.v (.int .i64 ((offN r seq text.size : Nat) : Int))),(3,.v (.bool fin)),(4,.p 0 0),(8,.p 1 0),(9,.p 2 0),(10,.v (.int .i64 (windowOf r))),(11,.v (.slice v4a ((slotsOf r).length) v4c))] ?_
 refine kZ ?_
 refine kS ?_
 refine xw_joinF (α := {zz : Int // (fun (fo : Int) => fo = finIn r seq text fin ∧ (-1 ≤ fo ∧ fo ≤ 32)) zz}) (fun zz => (fun (fo : Int) => (⟨[(4,.p 0 0),(8,.p 1 0),(9,.p 2 0),(11,.v (.slice v4a ((slotsOf r).length) v4c))],[⟨30,rcvL r (.slice Arh r.held.length Crh)⟩,⟨30,rcvZ⟩,⟨30,rcvL { r with fin := fo } (.slice v1a r.held.length v1c)⟩],[],[rowF w.heap.size 3 1 (.slice v4a ((slotsOf r).length) v4c) (sl.map intRow),rowF w.heap.size 108 2 (.slice v1a r.held.length v1c) (r.held.map pceCells),slF (.slice Arh r.held.length Crh) 2 (r.held.map pceCells)]⟩ : St)) zz.1) ?_ ?_
 refine kQ ?_
 refine kRD 2 [4,8,9,10,11,14,81] [(81,.v (.bool fin))] ?_
 refine kP 81 (fin) (fun h11 => ?_) (fun h11 => ?_)
 refine kRD 5 [4,8,9,10,11,14,86] [(86,.v (.bool (decide (r.fin < 0))))] ?_
 refine kP 86 (decide (r.fin < 0)) (fun h12 => ?_) (fun h12 => ?_)
 have h12p := of_decide_eq_true h12
 refine kRD 5 [4,8,9,11,14,91] [(91,.v (.bool (decide (((offN r seq text.size : Nat) : Int) ≤ (windowOf r)))))] ?_
 refine kP 91 (decide (((offN r seq text.size : Nat) : Int) ≤ (windowOf r))) (fun h13 => ?_) (fun h13 => ?_)
 have h13p := of_decide_eq_true h13
 refine kCD 2 [4,8,9,11,14,91,92,93] [(91,.v (.bool true)),(92,.v (.slice v4a ((slotsOf r).length) v4c)),(93,.v (.int .i64 ((offN r seq text.size : Nat) : Int)))] 142 [.slice v4a ((slotsOf r).length) v4c,.int .i64 ((offN r seq text.size : Nat) : Int)] (some 94) rfl (xc_b fun ww hf => yl18Free_c sl (.slice v4a ((slotsOf r).length) v4c) (offN r seq text.size : Nat) ww (rowF_sl (hf _ m0)) (by omega)) ?_
 intro _
 refine kED [4,8,9,11,14,95] [(95,.v (.bool (freeFrom sl (offN r seq text.size : Nat))))] ?_
 refine kC ((freeFrom sl (offN r seq text.size : Nat))) (fun h14 => ?_) (fun h14 => ?_)
 refine kG ?_
 refine kEU [4,8,9,11] [] 2 ⟨30,rcvL { r with fin := ((offN r seq text.size : Nat) : Int) } (.slice v1a r.held.length v1c)⟩ ?_
 exact ⟨⟨(((offN r seq text.size : Nat) : Int)),⟨(by unfold finIn; rw [← hall]; first | (simp [*]; done) | grind),(by first | omega | (have := hf3; omega))⟩⟩,kF 3 0 [4,8,9,11]⟩
 refine kK ?_
 exact ⟨⟨(r.fin),⟨(by unfold finIn; rw [← hall]; first | (simp [*]; done) | grind),(by first | omega | (have := hf3; omega))⟩⟩,kF 3 0 [4,8,9,11]⟩
 have h13p := of_decide_eq_false h13
 refine kED [4,8,9,11,14,95] [(95,.v (.bool false))] ?_
 refine kN ?_
 refine kK ?_
 exact ⟨⟨(r.fin),⟨(by unfold finIn; rw [← hall]; first | (simp [*]; done) | grind),(by first | omega | (have := hf3; omega))⟩⟩,kF 3 0 [4,8,9,11]⟩
 have h12p := of_decide_eq_false h12
 refine kED [4,8,9,11,14,95] [(95,.v (.bool false))] ?_
 refine kN ?_
 refine kK ?_
 exact ⟨⟨(r.fin),⟨(by unfold finIn; rw [← hall]; first | (simp [*]; done) | grind),(by first | omega | (have := hf3; omega))⟩⟩,kF 3 0 [4,8,9,11]⟩
 refine kED [4,8,9,11,14,95] [(95,.v (.bool false))] ?_
 refine kN ?_
 refine kK ?_
 exact ⟨⟨(r.fin),⟨(by unfold finIn; rw [← hall]; first | (simp [*]; done) | grind),(by first | omega | (have := hf3; omega))⟩⟩,kF 3 0 [4,8,9,11]⟩
 rintro ⟨fo,hfo,hfb⟩
 try dsimp only
 try dsimp only at hfo hfb
 refine kQ ?_
 refine kED [4,8,9,11,15] [(15,.v (.int .i64 0))] ?_
 refine kQ ?_
 refine kHD 0 [4,8,9,11,15] [] rfl (hv_build (e := 5) (K := 1) (bytes := 1) [] rfl (by kernel_rfl) (by kernel_rfl) (by kernel_rfl) (by kernel_rfl) (by kernel_rfl) (rs := ([] : List Int).map byteRow) rfl) ?_
 intro g15
 refine kED [4,8,9,11,15,16] [(16,.v (.slice (some ⟨g15,0,none⟩) 0 0))] ?_
 refine kS ?_
 refine xw_joinF (α := {zz : Nat × List Int × Option Addr × Nat // (fun (n2 : Nat) (gt : List Int) (A2 : Option Addr) (c2 : Nat) => n2 = filled sl ∧ gt = sl.take n2 ∧ n2 ≤ 33) zz.1 zz.2.1 zz.2.2.1 zz.2.2.2}) (fun zz => (fun (n2 : Nat) (gt : List Int) (A2 : Option Addr) (c2 : Nat) => (⟨[(4,.p 0 0),(8,.p 1 0),(9,.p 2 0),(11,.v (.slice v4a ((slotsOf r).length) v4c)),(15,.v (.int .i64 (n2 : Int))),(16,.v (.slice A2 gt.length c2))],[⟨30,rcvL r (.slice Arh r.held.length Crh)⟩,⟨30,rcvZ⟩,⟨30,rcvL { r with fin := fo } (.slice v1a r.held.length v1c)⟩],[],[rowF w.heap.size 5 1 (.slice A2 gt.length c2) (gt.map byteRow),rowF w.heap.size 3 1 (.slice v4a ((slotsOf r).length) v4c) (sl.map intRow),rowF w.heap.size 108 2 (.slice v1a r.held.length v1c) (r.held.map pceCells),slF (.slice Arh r.held.length Crh) 2 (r.held.map pceCells)]⟩ : St)) zz.1.1 zz.1.2.1 zz.1.2.2.1 zz.1.2.2.2) ?_ ?_
 refine xw_block ?_
 refine xw_loopW (α := {x : Nat × List Int × Option Addr × Nat // (fun (n2 : Nat) (gt : List Int) (A2 : Option Addr) (c2 : Nat) => n2 ≤ 33 ∧ gt = sl.take n2 ∧ (∀ x ∈ sl.take n2,0 ≤ x)) x.1 x.2.1 x.2.2.1 x.2.2.2}) (fun x => (fun (n2 : Nat) (gt : List Int) (A2 : Option Addr) (c2 : Nat) => (⟨[(4,.p 0 0),(8,.p 1 0),(9,.p 2 0),(11,.v (.slice v4a ((slotsOf r).length) v4c)),(15,.v (.int .i64 (n2 : Int))),(16,.v (.slice A2 gt.length c2))],[⟨30,rcvL r (.slice Arh r.held.length Crh)⟩,⟨30,rcvZ⟩,⟨30,rcvL { r with fin := fo } (.slice v1a r.held.length v1c)⟩],[],[rowF w.heap.size 5 1 (.slice A2 gt.length c2) (gt.map byteRow),rowF w.heap.size 3 1 (.slice v4a ((slotsOf r).length) v4c) (sl.map intRow),rowF w.heap.size 108 2 (.slice v1a r.held.length v1c) (r.held.map pceCells),slF (.slice Arh r.held.length Crh) 2 (r.held.map pceCells)]⟩ : St)) x.1.1 x.1.2.1 x.1.2.2.1 x.1.2.2.2) (fun x => (fun (n2 : Nat) (gt : List Int) (A2 : Option Addr) (c2 : Nat) => 33 - n2) x.1.1 x.1.2.1 x.1.2.2.1 x.1.2.2.2) ⟨(0,([] : List Int),(some ⟨g15,0,none⟩),0),⟨Nat.zero_le _,rfl,(by simp)⟩⟩ ((wk_pick [0,1,2,3] [rowF w.heap.size 5 1 (.slice (some ⟨g15,0,none⟩) 0 0) (([] : List Int).map byteRow),rowF w.heap.size 3 1 (.slice v4a ((slotsOf r).length) v4c) (sl.map intRow),rowF w.heap.size 108 2 (.slice v1a r.held.length v1c) (r.held.map pceCells),slF (.slice Arh r.held.length Crh) 2 (r.held.map pceCells)] (by kernel_rfl) (by kernel_rfl)).trans <| kF 3 0 [4,8,9,11,15,16]) ?_
 rintro ⟨⟨n2,gt,A2,c2⟩,hn2,hg2,hps⟩
 try dsimp only
 try dsimp only at hn2 hg2 hps
 refine kS ?_
 refine kQ ?_
 refine kRD 5 [4,8,9,11,15,16,103] [(103,.v (.bool (decide ((n2 : Int) < (((slotsOf r).length : Nat) : Int)))))] ?_
 refine kP 103 (decide ((n2 : Int) < (((slotsOf r).length : Nat) : Int))) (fun h16 => ?_) (fun h16 => ?_)
 have h16p := of_decide_eq_true h16
 have hlt2 : n2 < 33 := by simp at h16; omega
 obtain ⟨y,hy⟩ : ∃ y,sl[n2]? = some y := ⟨_,List.getElem?_eq_getElem (by omega)⟩
 have hy255 := hby y (List.mem_of_getElem? hy)
 have hgl : gt.length ≤ 33 := by rw [hg2,List.length_take]; omega
 refine kOD 2 [4,8,9,11,15,16,103,104,105] [(103,.v (.bool true)),(104,.v (.slice v4a ((slotsOf r).length) v4c)),(105,.v (.int .i64 (n2 : Int)))] (.pointer (some ⟨gg,n2 * 1,none⟩)) rfl (fun _ _ _ ww hr => act_ix (kd := .i64) (T := 73) (e := 3) (K := 1) (g := gg) (N := ((slotsOf r).length)) (cap := v4c) n2 (hgg trivial) hr.1 rfl rfl (by kernel_rfl) (by kernel_rfl) (by kernel_rfl) (by omega) ww) ?_
 refine kOD 0 [4,8,9,11,15,16,103,106] [] (.int .i64 y) rfl (fun _ _ _ ww hr => ldR_run (po := 0) (j := n2) (row := [.int .i64 y]) (rowF w.heap.size 3 1 (.slice v4a ((slotsOf r).length) v4c) (sl.map intRow)) hr rfl (by kernel_rfl) (by simp) (by simp only [List.getElem?_map,hy]; rfl) (by kernel_rfl) (hgg trivial) rfl rfl) ?_
 refine kED [4,8,9,11,15,16,109] [(109,.v (.bool (decide (y ≥ 0))))] ?_
 refine kC (decide (y ≥ 0)) (fun h17 => ?_) (fun h17 => ?_)
 have h17p := of_decide_eq_true h17
 refine kK ?_
 refine xw_block ?_
 refine kQ ?_
 refine kOD 3 [4,8,9,11,15,16,110,111,112] [(110,.v (.slice A2 gt.length c2)),(111,.v (.slice v4a ((slotsOf r).length) v4c)),(112,.v (.int .i64 (n2 : Int)))] (.pointer (some ⟨gg,n2 * 1,none⟩)) rfl (fun _ _ _ ww hr => act_ix (kd := .i64) (T := 73) (e := 3) (K := 1) (g := gg) (N := ((slotsOf r).length)) (cap := v4c) n2 (hgg trivial) hr.1 rfl rfl (by kernel_rfl) (by kernel_rfl) (by kernel_rfl) (by omega) ww) ?_
 refine kOD 0 [4,8,9,11,15,16,110,113] [] (.int .i64 y) rfl (fun _ _ _ ww hr => ldR_run (po := 0) (j := n2) (row := [.int .i64 y]) (rowF w.heap.size 3 1 (.slice v4a ((slotsOf r).length) v4c) (sl.map intRow)) hr rfl (by kernel_rfl) (by simp) (by simp only [List.getElem?_map,hy]; rfl) (by kernel_rfl) (hgg trivial) rfl rfl) ?_
 refine kHD 1 [4,8,9,11,15,16,110,115] [(115,.v (.int .u8 (IntKind.u8.wrap y)))] rfl (hv_build (e := 5) (K := 1) (bytes := 1) [.int .u8 (IntKind.u8.wrap y)] rfl (by kernel_rfl) (by kernel_rfl) (by kernel_rfl) (by kernel_rfl) (by kernel_rfl) (rs := ([IntKind.u8.wrap y] : List Int).map byteRow) rfl) ?_
 intro g18
 refine kHS 0 [4,8,9,11,15,16,110,116] [(4,.p 0 0),(8,.p 1 0),(9,.p 2 0),(11,.v (.slice v4a ((slotsOf r).length) v4c)),(15,.v (.int .i64 (n2 : Int))),(16,.v (.slice A2 gt.length c2)),(110,.v (.slice A2 gt.length c2)),(116,.v (.slice (some ⟨g18,0,none⟩) 1 1))] rfl (hv_append (e := 5) (K := 1) (bytes := 1) (i := 1) (q := (gt ++ ([IntKind.u8.wrap y] : List Int)).length) (new := ([IntKind.u8.wrap y] : List Int).map byteRow) (rs' := (gt ++ ([IntKind.u8.wrap y] : List Int)).map byteRow) rfl rfl rfl rfl (by kernel_rfl) (by kernel_rfl) (by kernel_rfl) rfl (by simp) (by rw [List.map_append]) (by simp) (fun ww hf => (rowF_sl (hf (rowF w.heap.size 5 1 (.slice (some ⟨g18,0,none⟩) 1 1) (([IntKind.u8.wrap y] : List Int).map byteRow)) (by simp)))) (by intro r hr; obtain ⟨x,hx,rfl⟩ := List.mem_map.1 hr; exact ⟨rfl,by simp [byteRow,Value.oneCell']⟩) (by (try simp only [List.length_map,List.length_append,List.length_cons,List.length_nil,List.length_take,List.length_drop,maxLen]); omega) (by (try simp only [List.length_map,List.length_append,List.length_cons,List.length_nil,List.length_take,List.length_drop,maxLen]); omega)) ?_
 rintro ⟨v19a,v19c⟩
 refine kRS 1 [4,8,9,11,15,16] [(4,.p 0 0),(8,.p 1 0),(9,.p 2 0),(11,.v (.slice v4a ((slotsOf r).length) v4c)),(15,.v (.int .i64 (n2 : Int))),(16,.v (.slice v19a ((gt ++ ([IntKind.u8.wrap y] : List Int)).length) v19c))] ?_
 refine xl_eq (st' := ⟨[(4,.p 0 0),(8,.p 1 0),(9,.p 2 0),(11,.v (.slice v4a ((slotsOf r).length) v4c)),(15,.v (.int .i64 (n2 : Int))),(16,.v (.slice v19a ((gt ++ ([y] : List Int)).length) v19c))],[⟨30,rcvL r (.slice Arh r.held.length Crh)⟩,⟨30,rcvZ⟩,⟨30,rcvL { r with fin := fo } (.slice v1a r.held.length v1c)⟩],[],[rowF w.heap.size 5 1 (.slice v19a ((gt ++ ([y] : List Int)).length) v19c) ((gt ++ ([y] : List Int)).map byteRow),rowF w.heap.size 5 1 (.slice (some ⟨g18,0,none⟩) 1 1) (([y] : List Int).map byteRow),rowF w.heap.size 3 1 (.slice v4a ((slotsOf r).length) v4c) (sl.map intRow),rowF w.heap.size 108 2 (.slice v1a r.held.length v1c) (r.held.map pceCells),slF (.slice Arh r.held.length Crh) 2 (r.held.map pceCells)]⟩) (by rw [show (IntKind.u8.wrap y) = y from u8_id (by omega) (by omega)] <;> rfl) ?_
 refine kED [4,8,9,11,15,16] [] ?_
 refine kG ?_
 refine kRS 3 [4,8,9,11,15,16] [(4,.p 0 0),(8,.p 1 0),(9,.p 2 0),(11,.v (.slice v4a ((slotsOf r).length) v4c)),(15,.v (.int .i64 (IntKind.i64.wrap ((n2 : Int) + 1)))),(16,.v (.slice v19a ((gt ++ ([y] : List Int)).length) v19c))] ?_
 refine xl_eqS (t' := [(4,.p 0 0),(8,.p 1 0),(9,.p 2 0),(11,.v (.slice v4a ((slotsOf r).length) v4c)),(15,.v (.int .i64 ((n2 : Int) + 1))),(16,.v (.slice v19a ((gt ++ ([y] : List Int)).length) v19c))]) (by rw [show (IntKind.i64.wrap ((n2 : Int) + 1)) = ((n2 : Int) + 1) from wrap_id (by omega) (by omega)]) ?_
 refine kED [4,8,9,11,15,16] [] ?_
 exact ⟨⟨(n2 + 1,(gt ++ ([y] : List Int)),v19a,v19c),⟨(by omega),(by rw [hg2,take_more hy]),(take_pos hps hy (by omega))⟩⟩,(wk_pick [0,2,3,4] [rowF w.heap.size 5 1 (.slice v19a ((gt ++ ([y] : List Int)).length) v19c) ((gt ++ ([y] : List Int)).map byteRow),rowF w.heap.size 3 1 (.slice v4a ((slotsOf r).length) v4c) (sl.map intRow),rowF w.heap.size 108 2 (.slice v1a r.held.length v1c) (r.held.map pceCells),slF (.slice Arh r.held.length Crh) 2 (r.held.map pceCells)] (by kernel_rfl) (by kernel_rfl)).trans <| kF 3 0 [4,8,9,11,15,16],by show (fun (n2 : Nat) (gt : List Int) (A2 : Option Addr) (c2 : Nat) => 33 - n2) (n2 + 1) (gt ++ ([y] : List Int)) v19a v19c < 33 - n2; (dsimp only; omega)⟩
 have h17p := of_decide_eq_false h17
 refine xw_exit ?_
 exact ⟨⟨(n2,gt,A2,c2),⟨(by first | exact (filled_stop (k := n2) (by omega) hps (fun z hz => by rw [hy] at hz; simp only [Option.some.injEq] at hz; omega)).symm | exact (filled_stop (k := n2) (by omega) hps (fun z hz => by rw [List.getElem?_eq_none (by omega)] at hz; simp at hz)).symm),hg2,hn2⟩⟩,kF 3 0 [4,8,9,11,15,16]⟩
 have h16p := of_decide_eq_false h16
 have hge2 : 33 ≤ n2 := by simp at h16; omega
 refine kED [4,8,9,11,15,16,109] [(109,.v (.bool false))] ?_
 refine kN ?_
 refine xw_exit ?_
 exact ⟨⟨(n2,gt,A2,c2),⟨(by first | exact (filled_stop (k := n2) (by omega) hps (fun z hz => by rw [hy] at hz; simp only [Option.some.injEq] at hz; omega)).symm | exact (filled_stop (k := n2) (by omega) hps (fun z hz => by rw [List.getElem?_eq_none (by omega)] at hz; simp at hz)).symm),hg2,hn2⟩⟩,kF 3 0 [4,8,9,11,15,16]⟩
 rintro ⟨⟨n2,gt,A2,c2⟩,hnf,hg2,hn2⟩
 try dsimp only
 try dsimp only at hnf hg2 hn2
 have hbl := bstr_len gt
 have hgl : gt.length ≤ 33 := by rw [hg2,List.length_take]; omega
 refine kQ ?_
 refine kOD 3 [4,8,9,11,15,121,122] [(121,.v (.string r.data)),(122,.v (.slice A2 gt.length c2))] (.string (bstr gt)) rfl (fun _ _ _ ww hr => act_b2s (e := 5) gt hr.1 rfl (by kernel_rfl) (by kernel_rfl) (by kernel_rfl) rfl (rowF_sl (hr.2.fact (rowF w.heap.size 5 1 (.slice A2 gt.length c2) (gt.map byteRow)) (by simp)).1)) ?_
 refine kOD 0 [4,8,9,11,15,121,123] [] (.string (r.data ++ (bstr gt))) rfl (fun _ _ _ ww hr => act_bin hr.1 rfl (by kernel_rfl) (by kernel_rfl) (str_add (by first | omega | (simp only [ByteArray.size_extract]; omega)) ww)) ?_
 refine kEU [4,8,9,11,15] [] 2 ⟨30,rcvL { r with data := r.data ++ (bstr gt),fin := fo } (.slice v1a r.held.length v1c)⟩ ?_
 refine kQ ?_
 refine kCD 3 [4,8,9,11,15,127,128] [(127,.v (.int .i64 r.next)),(128,.v (.int .i64 (n2 : Int)))] 60 [.int .i64 r.next,.int .i64 (n2 : Int)] (some 129) rfl (xc_s fun ww hf => sSeqAdd_c r.next (n2 : Int) ww ) ?_
 intro _
 refine kEU [4,8,9,11,15] [] 2 ⟨30,[.int .i64 (seqAdd r.next (n2 : Int)),.string (r.data ++ (bstr gt)),.slice v1a r.held.length v1c,.int .i64 fo,.bool r.done]⟩ ?_
 refine kQ ?_
 refine kCD 2 [4,8,9,15,131,132] [(131,.v (.slice v4a ((slotsOf r).length) v4c)),(132,.v (.int .i64 (n2 : Int)))] 143 [.slice v4a ((slotsOf r).length) v4c,.int .i64 (n2 : Int)] (some 133) rfl (xc_r fun ww hw hf => yl18Pieces_c sl (.slice v4a ((slotsOf r).length) v4c) n2 ww (rowF_sl (hf _ m1)) (by omega) (by omega) (by assumption) w.heap.size hw) ?_
 rintro ⟨v20a,v20c⟩
 refine kEU [4,8,9,15] [] 2 ⟨30,[.int .i64 (seqAdd r.next (n2 : Int)),.string (r.data ++ (bstr gt)),.slice v20a ((pcs [] 0 (sl.drop n2)).length) v20c,.int .i64 fo,.bool r.done]⟩ ?_
 refine kS ?_
 refine xw_joinF (α := {zz : Int // (fun (fp : Int) => fp = finOut r seq text fin) zz}) (fun zz => (fun (fp : Int) => (⟨[(4,.p 0 0),(8,.p 1 0),(9,.p 2 0)],[⟨30,rcvL r (.slice Arh r.held.length Crh)⟩,⟨30,rcvZ⟩,⟨30,[.int .i64 (seqAdd r.next (n2 : Int)),.string (r.data ++ (bstr gt)),.slice v20a ((pcs [] 0 (sl.drop n2)).length) v20c,.int .i64 fp,.bool r.done]⟩],[],[rowF w.heap.size 108 2 (.slice v20a ((pcs [] 0 (sl.drop n2)).length) v20c) ((pcs [] 0 (sl.drop n2)).map pceCells),rowF w.heap.size 5 1 (.slice A2 gt.length c2) (gt.map byteRow),rowF w.heap.size 3 1 (.slice v4a ((slotsOf r).length) v4c) (sl.map intRow),rowF w.heap.size 108 2 (.slice v1a r.held.length v1c) (r.held.map pceCells),slF (.slice Arh r.held.length Crh) 2 (r.held.map pceCells)]⟩ : St)) zz.1) ?_ ?_
 refine kQ ?_
 refine kES [4,8,9,15,137] [(4,.p 0 0),(8,.p 1 0),(9,.p 2 0),(15,.v (.int .i64 (n2 : Int))),(137,.v (.bool (decide (fo ≥ 0))))] ?_
 refine kC (decide (fo ≥ 0)) (fun h21 => ?_) (fun h21 => ?_)
 have h21p := of_decide_eq_true h21
 refine kG ?_
 refine kRF 6 [4,8,9] ⟨[(4,.p 0 0),(8,.p 1 0),(9,.p 2 0)],[⟨30,rcvL r (.slice Arh r.held.length Crh)⟩,⟨30,rcvZ⟩,⟨30,[.int .i64 (seqAdd r.next (n2 : Int)),.string (r.data ++ (bstr gt)),.slice v20a ((pcs [] 0 (sl.drop n2)).length) v20c,.int .i64 (IntKind.i64.wrap (fo - (n2 : Int))),.bool r.done]⟩],[],[rowF w.heap.size 108 2 (.slice v20a ((pcs [] 0 (sl.drop n2)).length) v20c) ((pcs [] 0 (sl.drop n2)).map pceCells),rowF w.heap.size 5 1 (.slice A2 gt.length c2) (gt.map byteRow),rowF w.heap.size 3 1 (.slice v4a ((slotsOf r).length) v4c) (sl.map intRow),rowF w.heap.size 108 2 (.slice v1a r.held.length v1c) (r.held.map pceCells),slF (.slice Arh r.held.length Crh) 2 (r.held.map pceCells)]⟩ ?_
 refine xl_eq (st' := ⟨[(4,.p 0 0),(8,.p 1 0),(9,.p 2 0)],[⟨30,rcvL r (.slice Arh r.held.length Crh)⟩,⟨30,rcvZ⟩,⟨30,[.int .i64 (seqAdd r.next (n2 : Int)),.string (r.data ++ (bstr gt)),.slice v20a ((pcs [] 0 (sl.drop n2)).length) v20c,.int .i64 (fo - (n2 : Int)),.bool r.done]⟩],[],[rowF w.heap.size 108 2 (.slice v20a ((pcs [] 0 (sl.drop n2)).length) v20c) ((pcs [] 0 (sl.drop n2)).map pceCells),rowF w.heap.size 5 1 (.slice A2 gt.length c2) (gt.map byteRow),rowF w.heap.size 3 1 (.slice v4a ((slotsOf r).length) v4c) (sl.map intRow),rowF w.heap.size 108 2 (.slice v1a r.held.length v1c) (r.held.map pceCells),slF (.slice Arh r.held.length Crh) 2 (r.held.map pceCells)]⟩) (by rw [show (IntKind.i64.wrap (fo - (n2 : Int))) = (fo - (n2 : Int)) from wrap_id (by omega) (by omega)] <;> rfl) ?_
 refine kED [4,8,9] [] ?_
 exact ⟨⟨(fo - (n2 : Int)),(by unfold finOut; rw [← hall,← hnf,← hfo]; first | rw [if_pos (by omega)] | rw [if_neg (by omega)])⟩,kF 3 0 [4,8,9]⟩
 have h21p := of_decide_eq_false h21
 refine kK ?_
 exact ⟨⟨(fo),(by unfold finOut; rw [← hall,← hnf,← hfo]; first | rw [if_pos (by omega)] | rw [if_neg (by omega)])⟩,kF 3 0 [4,8,9]⟩
 rintro ⟨fp,hfp⟩
 try dsimp only
 try dsimp only at hfp
 refine kS ?_
 refine kQ ?_
 refine kES [4,8,9,145] [(4,.p 0 0),(8,.p 1 0),(9,.p 2 0),(145,.v (.bool (fp == 0)))] ?_
 refine kC (fp == 0) (fun h22 => ?_) (fun h22 => ?_)
 have h22p := eqT h22
 refine kQ ?_
 refine kEU [4,8,9] [] 2 ⟨30,[.int .i64 (seqAdd r.next (n2 : Int)),.string (r.data ++ (bstr gt)),.slice v20a ((pcs [] 0 (sl.drop n2)).length) v20c,.int .i64 (-1),.bool r.done]⟩ ?_
 refine kQ ?_
 refine kEU [4,8,9] [] 2 ⟨30,[.int .i64 (seqAdd r.next (n2 : Int)),.string (r.data ++ (bstr gt)),.slice v20a ((pcs [] 0 (sl.drop n2)).length) v20c,.int .i64 (-1),.bool true]⟩ ?_
 refine kG ?_
 refine kCD 2 [4,8,9,149] [(149,.v (.int .i64 (seqAdd r.next (n2 : Int))))] 60 [.int .i64 (seqAdd r.next (n2 : Int)),.int .i64 1] (some 150) rfl (xc_s fun ww hf => sSeqAdd_c (seqAdd r.next (n2 : Int)) 1 ww ) ?_
 intro _
 refine kEU [4,8,9] [] 2 ⟨30,[.int .i64 (seqAdd (seqAdd r.next (n2 : Int)) 1),.string (r.data ++ (bstr gt)),.slice v20a ((pcs [] 0 (sl.drop n2)).length) v20c,.int .i64 (-1),.bool true]⟩ ?_
 refine kS ?_
 refine kQ ?_
 refine kED [4,8,9,155] [(155,.v (.bool (decide ((((pcs [] 0 (sl.drop n2)).length : Nat) : Int) > 3))))] ?_
 refine kC (decide ((((pcs [] 0 (sl.drop n2)).length : Nat) : Int) > 3)) (fun h23 => ?_) (fun h23 => ?_)
 have h23p := of_decide_eq_true h23
 refine kQ ?_
 refine kCD 1 [8,156] [(156,.v (.agg (rcvL r (.slice Arh r.held.length Crh)).toArray))] 115 [.agg (rcvL r (.slice Arh r.held.length Crh)).toArray] (some 157) rfl (xc_r fun ww hw hf => yl18Copy_c r (.slice Arh r.held.length Crh) ww (hf _ m4) (by assumption) w.heap.size hw) ?_
 rintro ⟨v24a,v24c⟩
 refine kEU [8] [(8,.p 1 0)] 1 ⟨30,rcvL r (.slice v24a r.held.length v24c)⟩ ?_
 refine kR ?_
 have hmod : arrived r seq text fin = r := by first | exact arrived_over hrk (by assumption) (by rw [← hall,← hnf]; omega) | (unfold arrived; rw [if_neg (by grind)]; done) | (unfold arrived; rw [if_pos (by grind),← hall,← hnf,← hg2,← hfp]; first | (rw [if_pos (by omega)]; done) | (rw [if_neg (by omega),if_pos (by first | omega | simp_all)]; done) | (rw [if_neg (by omega),if_neg (by first | omega | simp_all)]; done))
 exact ⟨[.agg (rcvL r (.slice v24a r.held.length v24c)).toArray],by kernel_rfl,fun w' hb hf ha => by rw [hmod]; exact xo1 ((v24a,v24c)) rfl rfl (pW (hf _ m0) hB) hb⟩
 have h23p := of_decide_eq_false h23
 refine kK ?_
 refine kQ ?_
 refine kEU [8] [(8,.p 1 0)] 1 ⟨30,[.int .i64 (seqAdd (seqAdd r.next (n2 : Int)) 1),.string (r.data ++ (bstr gt)),.slice v20a ((pcs [] 0 (sl.drop n2)).length) v20c,.int .i64 (-1),.bool true]⟩ ?_
 refine kR ?_
 have hmod : arrived r seq text fin = (⟨seqAdd (seqAdd r.next (n2 : Int)) 1,r.data ++ (bstr gt),(pcs [] 0 (sl.drop n2)),(-1),true⟩) := by first | exact arrived_over hrk (by assumption) (by rw [← hall,← hnf]; omega) | (unfold arrived; rw [if_neg (by grind)]; done) | (unfold arrived; rw [if_pos (by grind),← hall,← hnf,← hg2,← hfp]; first | (rw [if_pos (by omega)]; done) | (rw [if_neg (by omega),if_pos (by first | omega | simp_all)]; done) | (rw [if_neg (by omega),if_neg (by first | omega | simp_all)]; done))
 exact ⟨[.agg #[.int .i64 (seqAdd (seqAdd r.next (n2 : Int)) 1),.string (r.data ++ (bstr gt)),.slice v20a ((pcs [] 0 (sl.drop n2)).length) v20c,.int .i64 (-1),.bool true]],by kernel_rfl,fun w' hb hf ha => by rw [hmod]; exact xo1 ((v20a,v20c)) rfl rfl (pW (hf _ m0) hB) hb⟩
 have h22p := eqF h22
 refine kK ?_
 refine kS ?_
 refine kQ ?_
 refine kED [4,8,9,155] [(155,.v (.bool (decide ((((pcs [] 0 (sl.drop n2)).length : Nat) : Int) > 3))))] ?_
 refine kC (decide ((((pcs [] 0 (sl.drop n2)).length : Nat) : Int) > 3)) (fun h25 => ?_) (fun h25 => ?_)
 have h25p := of_decide_eq_true h25
 refine kQ ?_
 refine kCD 1 [8,156] [(156,.v (.agg (rcvL r (.slice Arh r.held.length Crh)).toArray))] 115 [.agg (rcvL r (.slice Arh r.held.length Crh)).toArray] (some 157) rfl (xc_r fun ww hw hf => yl18Copy_c r (.slice Arh r.held.length Crh) ww (hf _ m4) (by assumption) w.heap.size hw) ?_
 rintro ⟨v26a,v26c⟩
 refine kEU [8] [(8,.p 1 0)] 1 ⟨30,rcvL r (.slice v26a r.held.length v26c)⟩ ?_
 refine kR ?_
 have hmod : arrived r seq text fin = r := by first | exact arrived_over hrk (by assumption) (by rw [← hall,← hnf]; omega) | (unfold arrived; rw [if_neg (by grind)]; done) | (unfold arrived; rw [if_pos (by grind),← hall,← hnf,← hg2,← hfp]; first | (rw [if_pos (by omega)]; done) | (rw [if_neg (by omega),if_pos (by first | omega | simp_all)]; done) | (rw [if_neg (by omega),if_neg (by first | omega | simp_all)]; done))
 exact ⟨[.agg (rcvL r (.slice v26a r.held.length v26c)).toArray],by kernel_rfl,fun w' hb hf ha => by rw [hmod]; exact xo1 ((v26a,v26c)) rfl rfl (pW (hf _ m0) hB) hb⟩
 have h25p := of_decide_eq_false h25
 refine kK ?_
 refine kQ ?_
 refine kEU [8] [(8,.p 1 0)] 1 ⟨30,[.int .i64 (seqAdd r.next (n2 : Int)),.string (r.data ++ (bstr gt)),.slice v20a ((pcs [] 0 (sl.drop n2)).length) v20c,.int .i64 fp,.bool r.done]⟩ ?_
 refine kR ?_
 have hmod : arrived r seq text fin = (⟨seqAdd r.next (n2 : Int),r.data ++ (bstr gt),(pcs [] 0 (sl.drop n2)),fp,r.done⟩) := by first | exact arrived_over hrk (by assumption) (by rw [← hall,← hnf]; omega) | (unfold arrived; rw [if_neg (by grind)]; done) | (unfold arrived; rw [if_pos (by grind),← hall,← hnf,← hg2,← hfp]; first | (rw [if_pos (by omega)]; done) | (rw [if_neg (by omega),if_pos (by first | omega | simp_all)]; done) | (rw [if_neg (by omega),if_neg (by first | omega | simp_all)]; done))
 exact ⟨[.agg #[.int .i64 (seqAdd r.next (n2 : Int)),.string (r.data ++ (bstr gt)),.slice v20a ((pcs [] 0 (sl.drop n2)).length) v20c,.int .i64 fp,.bool r.done]],by kernel_rfl,fun w' hb hf ha => by rw [hmod]; exact xo1 ((v20a,v20c)) rfl rfl (pW (hf _ m0) hB) hb⟩
theorem ysAcked_c (s : Snd) (ack : Int) (w : World)  : Calls Tryz.prog 138 #[.agg (sndL s).toArray, .int .i64 ack] w fun e w' => e = .returned (.tuple #[.agg (sndL (acked s ack).1).toArray, .bool ((acked s ack).2)]) ∧ Below w.heap.size w w' := by
 refine x_calls (args := [.agg (sndL s).toArray,.int .i64 ack]) (fn := Tryz.f138) [] Tryz.func138 rfl Tryz.ntmps138 rfl (by simp) ?_
 refine kQ ?_
 refine kEF [1,2,4] ⟨[(1,.v (.int .i64 ack)),(2,.p 0 0),(4,.p 1 0)],[⟨27,sndL s⟩,⟨27,sndZ⟩],[],[]⟩ ?_
 refine kQ ?_
 refine kCD 3 [2,4,8,10] [(8,.v (.int .i64 ack)),(10,.v (.int .i64 s.una))] 105 [.int .i64 ack,.int .i64 s.una] (some 11) rfl (xc_s fun ww hf => sSeqDiff_c ack s.una ww ) ?_
 intro _
 refine kED [2,4,6] [(6,.v (.int .i64 (seqDiff ack s.una)))] ?_
 refine kS ?_
 refine kQ ?_
 refine kCD 1 [2,4,6,12] [(12,.v (.agg (sndL s).toArray))] 75 [.agg (sndL s).toArray] (some 13) rfl (xc_b fun ww hf => sSenderOk_c s.una s.data s.sent s.fin s.finSent s.done ww ) ?_
 intro _
 refine kRD 2 [2,4,6,15] [(15,.v (.bool (!(senderOk s))))] ?_
 refine kP 15 (!(senderOk s)) (fun h1 => ?_) (fun h1 => ?_)
 have h1n := not_t h1
 refine kED [2,4,6,21] [(21,.v (.bool true))] ?_
 refine kT ?_
 refine kQ ?_
 refine kEU [4,5] [(5,.v (.bool false))] 1 ⟨27,sndL s⟩ ?_
 refine kR ?_
 have hmod : acked s ack = (s,false) := by first | rfl | (simp [acked, *]; done) | (cases hfs : s.finSent <;> grind [acked])
 exact ⟨[.agg (sndL s).toArray,.bool false],by kernel_rfl,fun w' hb hf => by rw [hmod]; exact ⟨rfl,hb⟩⟩
 have h1n := not_f h1
 have h1nb := senderOk_bd (s := s) (by simpa using h1n)
 obtain ⟨h1nb0,h1nb1,h1nb2,h1nb3,h1nb4,h1nb5,h1nb6,h1nb7,h1nb8,h1nb9,h1nb10⟩ := h1nb
 refine kCD 2 [2,4,6,15,16,17] [(15,.v (.bool false)),(16,.v (.int .i64 (seqDiff ack s.una))),(17,.v (.agg (sndL s).toArray))] 61 [.agg (sndL s).toArray] (some 18) rfl (xc_b fun ww hf => sFlown_c s.una s.data s.sent s.fin s.finSent s.done ww ) ?_
 intro _
 refine kCD 0 [2,4,6,15,16,18] [] 78 [.int .i64 (seqDiff ack s.una),.int .i64 0,.int .i64 (flown s)] (some 19) rfl (xc_s fun ww hf => l1In_c (seqDiff ack s.una) 0 (flown s) ww ) ?_
 intro _
 refine kED [2,4,6,21] [(21,.v (.bool (!(inB (seqDiff ack s.una) 0 (flown s)))))] ?_
 refine kC (!(inB (seqDiff ack s.una) 0 (flown s))) (fun h2 => ?_) (fun h2 => ?_)
 have h2n := not_t h2
 have h2ni := inB_ff.1 (show inB (seqDiff ack s.una) 0 (flown s) = false from by simpa using h2n)
 refine kQ ?_
 refine kEU [4,5] [(5,.v (.bool false))] 1 ⟨27,sndL s⟩ ?_
 refine kR ?_
 have hmod : acked s ack = (s,false) := by first | rfl | (simp [acked, *]; done) | (cases hfs : s.finSent <;> grind [acked])
 exact ⟨[.agg (sndL s).toArray,.bool false],by kernel_rfl,fun w' hb hf => by rw [hmod]; exact ⟨rfl,hb⟩⟩
 have h2n := not_f h2
 have h2ni := inB_tt.1 (show inB (seqDiff ack s.una) 0 (flown s) = true from by simpa using h2n)
 refine kK ?_
 refine kQ ?_
 refine kEA [2,4,6,7] [(7,.p 2 0)] [⟨27,sndL s⟩] ?_
 refine kQ ?_
 refine kCD 3 [2,4,6,7,25,26] [(25,.v (.int .i64 s.una)),(26,.v (.int .i64 (seqDiff ack s.una)))] 60 [.int .i64 s.una,.int .i64 (seqDiff ack s.una)] (some 27) rfl (xc_s fun ww hf => sSeqAdd_c s.una (seqDiff ack s.una) ww ) ?_
 intro _
 refine kEU [2,4,6,7] [] 2 ⟨27,sndL { s with una := seqAdd s.una (seqDiff ack s.una) }⟩ ?_
 refine kS ?_
 refine kQ ?_
 refine kES [2,4,6,7,32] [(2,.p 0 0),(4,.p 1 0),(6,.v (.int .i64 (seqDiff ack s.una))),(7,.p 2 0),(32,.v (.bool (decide ((seqDiff ack s.una) > s.sent))))] ?_
 refine kC (decide ((seqDiff ack s.una) > s.sent)) (fun h3 => ?_) (fun h3 => ?_)
 have h3p := of_decide_eq_true h3
 refine kQ ?_
 refine kEU [2,4,7] [] 2 ⟨27,sndL { s with una := seqAdd s.una (seqDiff ack s.una),finSent := false }⟩ ?_
 refine kQ ?_
 refine kEU [2,4,7] [] 2 ⟨27,sndL { s with una := seqAdd s.una (seqDiff ack s.una),finSent := false,done := true }⟩ ?_
 refine kG ?_
 refine kED [2,4,6,7] [(6,.v (.int .i64 s.sent))] ?_
 refine kQ ?_
 refine kOD 3 [2,4,6,7,38,39] [(38,.v (.string s.data)),(39,.v (.int .i64 s.sent))] (.string (s.data.extract (s.sent).toNat s.data.size)) rfl (fun _ _ _ ww hr => act_slSe (s.sent) hr.1 rfl (by kernel_rfl) rfl rfl (by omega) (by omega) ww) ?_
 refine kEU [2,4,6,7] [] 2 ⟨27,[.int .i64 (seqAdd s.una (seqDiff ack s.una)),.string (s.data.extract (s.sent).toNat s.data.size),.int .i64 s.sent,.bool s.fin,.bool false,.bool true]⟩ ?_
 refine kQ ?_
 refine kRF 6 [4,7] ⟨[(4,.p 1 0),(7,.p 2 0)],[⟨27,sndL s⟩,⟨27,sndZ⟩,⟨27,[.int .i64 (seqAdd s.una (seqDiff ack s.una)),.string (s.data.extract (s.sent).toNat s.data.size),.int .i64 (IntKind.i64.wrap (s.sent - s.sent)),.bool s.fin,.bool false,.bool true]⟩],[],[]⟩ ?_
 refine xl_eq (st' := ⟨[(4,.p 1 0),(7,.p 2 0)],[⟨27,sndL s⟩,⟨27,sndZ⟩,⟨27,[.int .i64 (seqAdd s.una (seqDiff ack s.una)),.string (s.data.extract (s.sent).toNat s.data.size),.int .i64 (s.sent - s.sent),.bool s.fin,.bool false,.bool true]⟩],[],[]⟩) (by rw [show (IntKind.i64.wrap (s.sent - s.sent)) = (s.sent - s.sent) from wrap_id (by omega) (by omega)] <;> rfl) ?_
 refine kED [4,7] [] ?_
 refine kQ ?_
 refine kEU [4,5] [(5,.v (.bool true))] 1 ⟨27,[.int .i64 (seqAdd s.una (seqDiff ack s.una)),.string (s.data.extract (s.sent).toNat s.data.size),.int .i64 (s.sent - s.sent),.bool s.fin,.bool false,.bool true]⟩ ?_
 refine kR ?_
 have hmod : acked s ack = ((⟨seqAdd s.una (seqDiff ack s.una),s.data.extract (s.sent).toNat s.data.size,s.sent - s.sent,s.fin,false,true⟩),true) := by first | rfl | (simp [acked, *]; done) | (cases hfs : s.finSent <;> grind [acked])
 exact ⟨[.agg #[.int .i64 (seqAdd s.una (seqDiff ack s.una)),.string (s.data.extract (s.sent).toNat s.data.size),.int .i64 (s.sent - s.sent),.bool s.fin,.bool false,.bool true],.bool true],by kernel_rfl,fun w' hb hf => by rw [hmod]; exact ⟨rfl,hb⟩⟩
 have h3p := of_decide_eq_false h3
 refine kK ?_
 refine kQ ?_
 refine kOD 3 [2,4,6,7,38,39] [(38,.v (.string s.data)),(39,.v (.int .i64 (seqDiff ack s.una)))] (.string (s.data.extract (seqDiff ack s.una).toNat s.data.size)) rfl (fun _ _ _ ww hr => act_slSe (seqDiff ack s.una) hr.1 rfl (by kernel_rfl) rfl rfl (by omega) (by omega) ww) ?_
 refine kEU [2,4,6,7] [] 2 ⟨27,sndL { s with una := seqAdd s.una (seqDiff ack s.una),data := s.data.extract (seqDiff ack s.una).toNat s.data.size }⟩ ?_
 refine kQ ?_
 refine kRF 6 [4,7] ⟨[(4,.p 1 0),(7,.p 2 0)],[⟨27,sndL s⟩,⟨27,sndZ⟩,⟨27,sndL { s with una := seqAdd s.una (seqDiff ack s.una),data := s.data.extract (seqDiff ack s.una).toNat s.data.size,sent := IntKind.i64.wrap (s.sent - (seqDiff ack s.una)) }⟩],[],[]⟩ ?_
 refine xl_eq (st' := ⟨[(4,.p 1 0),(7,.p 2 0)],[⟨27,sndL s⟩,⟨27,sndZ⟩,⟨27,sndL { s with una := seqAdd s.una (seqDiff ack s.una),data := s.data.extract (seqDiff ack s.una).toNat s.data.size,sent := s.sent - (seqDiff ack s.una) }⟩],[],[]⟩) (by rw [show (IntKind.i64.wrap (s.sent - (seqDiff ack s.una))) = (s.sent - (seqDiff ack s.una)) from wrap_id (by omega) (by omega)] <;> rfl) ?_
 refine kED [4,7] [] ?_
 refine kQ ?_
 refine kEU [4,5] [(5,.v (.bool true))] 1 ⟨27,sndL { s with una := seqAdd s.una (seqDiff ack s.una),data := s.data.extract (seqDiff ack s.una).toNat s.data.size,sent := s.sent - (seqDiff ack s.una) }⟩ ?_
 refine kR ?_
 have hmod : acked s ack = (({ s with una := seqAdd s.una (seqDiff ack s.una),data := s.data.extract (seqDiff ack s.una).toNat s.data.size,sent := s.sent - (seqDiff ack s.una) }),true) := by first | rfl | (simp [acked, *]; done) | (cases hfs : s.finSent <;> grind [acked])
 exact ⟨[.agg (sndL { s with una := seqAdd s.una (seqDiff ack s.una),data := s.data.extract (seqDiff ack s.una).toNat s.data.size,sent := s.sent - (seqDiff ack s.una) }).toArray,.bool true],by kernel_rfl,fun w' hb hf => by rw [hmod]; exact ⟨rfl,hb⟩⟩
theorem ysTakenIn_c (r : Rcv) (r_heldV : Value) (n : Int) (w : World) (hl_r_heldV : Sl w r_heldV 2 (r.held.map pceCells)) (hkn : r.held.length ≤ 1048576) (hm : ∀ p ∈ r.held, p.text.size ≤ 1048576) (hsz : r.data.size ≤ 4611686018427387904) (B : Nat) (hB : B ≤ w.heap.size) : Calls Tryz.prog 71 #[.agg (rcvL r r_heldV).toArray, .int .i64 n] w fun e w' => XRs w w' e (α := Option Addr × Nat) (fun y => .tuple #[.agg (rcvL (takenIn r n).1 (.slice y.1 ((takenIn r n).1.held.length) y.2)).toArray, .string ((takenIn r n).2)]) (fun y => [rowF B 108 2 (.slice y.1 ((takenIn r n).1.held.length) y.2) ((takenIn r n).1.held.map pceCells)]) := by
 obtain ⟨Arh,Crh,hvrh⟩ := hl_r_heldV.form
 rw [List.length_map] at hvrh; subst hvrh
 have hnrh := hl_r_heldV.len; rw [List.length_map] at hnrh
 have hqrh := Sl.capLe hl_r_heldV
 refine x_callsA (args := [.agg (rcvL r (.slice Arh r.held.length Crh)).toArray,.int .i64 n]) (fn := Tryz.f71) [slF (.slice Arh r.held.length Crh) 2 (r.held.map pceCells)] Tryz.func71 rfl Tryz.ntmps71 rfl (by simp only [List.mem_cons,List.not_mem_nil,or_false,forall_eq_or_imp,forall_eq]; exact ⟨rfl,hl_r_heldV⟩) ?_
 refine kQ ?_
 refine kEF [1,2,4] ⟨[(1,.v (.int .i64 n)),(2,.p 0 0),(4,.p 1 0)],[⟨30,rcvL r (.slice Arh r.held.length Crh)⟩,⟨30,rcvZ⟩],[],[slF (.slice Arh r.held.length Crh) 2 (r.held.map pceCells)]⟩ ?_
 refine kQ ?_
 refine kCS 1 [1,2,4,7] [(1,.v (.int .i64 n)),(2,.p 0 0),(4,.p 1 0),(7,.v (.agg (rcvL r (.slice Arh r.held.length Crh)).toArray))] 115 [.agg (rcvL r (.slice Arh r.held.length Crh)).toArray] (some 8) rfl (xc_r fun ww hw hf => yl18Copy_c r (.slice Arh r.held.length Crh) ww (hf _ m0) (by assumption) w.heap.size hw) ?_
 rintro ⟨v1a,v1c⟩
 refine kEF [1,2,4,6] ⟨[(1,.v (.int .i64 n)),(2,.p 0 0),(4,.p 1 0),(6,.p 2 0)],[⟨30,rcvL r (.slice Arh r.held.length Crh)⟩,⟨30,rcvZ⟩,⟨30,rcvL r (.slice v1a r.held.length v1c)⟩],[],[rowF w.heap.size 108 2 (.slice v1a r.held.length v1c) (r.held.map pceCells),slF (.slice Arh r.held.length Crh) 2 (r.held.map pceCells)]⟩ ?_
 refine kS ?_
 refine kQ ?_
 refine kCS 1 [1,2,4,6,9] [(1,.v (.int .i64 n)),(2,.p 0 0),(4,.p 1 0),(6,.p 2 0),(9,.v (.agg (rcvL r (.slice Arh r.held.length Crh)).toArray))] 76 [.agg (rcvL r (.slice Arh r.held.length Crh)).toArray] (some 10) rfl (xc_b fun ww hf => ysReceiverOk_c r (.slice Arh r.held.length Crh) ww (hf _ m1) (by assumption) (by omega)) ?_
 intro _
 refine kES [1,2,4,6,11] [(1,.v (.int .i64 n)),(2,.p 0 0),(4,.p 1 0),(6,.p 2 0),(11,.v (.bool (!(receiverOk r))))] ?_
 refine kC (!(receiverOk r)) (fun h2 => ?_) (fun h2 => ?_)
 have h2n := not_t h2
 refine kQ ?_
 refine kEF [4,5] ⟨[(4,.p 1 0),(5,.v (.string (⟨#[]⟩ : ByteArray)))],[⟨30,rcvL r (.slice Arh r.held.length Crh)⟩,⟨30,rcvL r (.slice v1a r.held.length v1c)⟩,⟨30,rcvL r (.slice v1a r.held.length v1c)⟩],[],[rowF w.heap.size 108 2 (.slice v1a r.held.length v1c) (r.held.map pceCells),slF (.slice Arh r.held.length Crh) 2 (r.held.map pceCells)]⟩ ?_
 refine kR ?_
 have hmod : takenIn r n = (r,(⟨#[]⟩ : ByteArray)) := by first | rfl | (simp [takenIn,cut, *]; done) | grind [takenIn,cut]
 exact ⟨[.agg (rcvL r (.slice v1a r.held.length v1c)).toArray,.string (⟨#[]⟩ : ByteArray)],by kernel_rfl,fun w' hb hf ha => by rw [hmod]; exact xo1 ((v1a,v1c)) rfl rfl (pW (hf _ m0) hB) hb⟩
 have h2n := not_f h2
 refine kK ?_
 refine kQ ?_
 refine kCS 4 [1,2,4,6,13,16] [(1,.v (.int .i64 n)),(2,.p 0 0),(4,.p 1 0),(6,.p 2 0),(13,.v (.int .i64 n)),(16,.v (.int .i64 (r.data.size : Int)))] 116 [.int .i64 n,.int .i64 (r.data.size : Int)] (some 17) rfl (xc_s fun ww hf => l1Min_c n (r.data.size : Int) ww ) ?_
 intro _
 refine kCS 0 [1,2,4,6,17] [(1,.v (.int .i64 n)),(2,.p 0 0),(4,.p 1 0),(6,.p 2 0),(17,.v (.int .i64 (min n (r.data.size : Int))))] 97 [.int .i64 0,.int .i64 (min n (r.data.size : Int))] (some 18) rfl (xc_s fun ww hf => l1Max_c 0 (min n (r.data.size : Int)) ww ) ?_
 intro _
 refine kES [1,2,4,6] [(1,.v (.int .i64 (max 0 (min n (r.data.size : Int))))),(2,.p 0 0),(4,.p 1 0),(6,.p 2 0)] ?_
 refine kQ ?_
 refine kOS 3 [1,2,4,6,20,21] [(1,.v (.int .i64 (max 0 (min n (r.data.size : Int))))),(2,.p 0 0),(4,.p 1 0),(6,.p 2 0),(20,.v (.string r.data)),(21,.v (.int .i64 (max 0 (min n (r.data.size : Int)))))] (.string (r.data.extract (max 0 (min n (r.data.size : Int))).toNat r.data.size)) rfl (fun _ _ _ ww hr => act_slSe (max 0 (min n (r.data.size : Int))) hr.1 rfl (by kernel_rfl) rfl rfl (by omega) (by omega) ww) ?_
 refine kEF [1,2,4,6] ⟨[(1,.v (.int .i64 (max 0 (min n (r.data.size : Int))))),(2,.p 0 0),(4,.p 1 0),(6,.p 2 0)],[⟨30,rcvL r (.slice Arh r.held.length Crh)⟩,⟨30,rcvZ⟩,⟨30,rcvL { r with data := r.data.extract (max 0 (min n (r.data.size : Int))).toNat r.data.size } (.slice v1a r.held.length v1c)⟩],[],[rowF w.heap.size 108 2 (.slice v1a r.held.length v1c) (r.held.map pceCells),slF (.slice Arh r.held.length Crh) 2 (r.held.map pceCells)]⟩ ?_
 refine kS ?_
 refine xe_region [true,false,true] (by kernel_rfl) (fun ρ σ => ?_)
 refine kTS [0,1,2,3] [27,26,24,4] 3 [(27,.v (.int .i64 (max 0 (min n (r.data.size : Int))))),(26,.v (.string r.data)),(24,.v (.agg (rcvL { r with data := r.data.extract (max 0 (min n (r.data.size : Int))).toNat r.data.size } (.slice v1a r.held.length v1c)).toArray)),(4,.p 1 0)] ?_
 refine kX 4 (.string (r.data.extract 0 (max 0 (min n (r.data.size : Int))).toNat)) rfl (fun _ _ ww hA => act_slS0 (max 0 (min n (r.data.size : Int))) hA rfl (by kernel_rfl) rfl rfl (by omega) (by omega) ww) ?_
 refine kA [5] ?_
 refine kSS 5 1 0 (rcvL { r with data := r.data.extract (max 0 (min n (r.data.size : Int))).toNat r.data.size } (.slice v1a r.held.length v1c)) rfl ?_
 refine kTS [6] [5,4] 0 [(5,.v (.string (r.data.extract 0 (max 0 (min n (r.data.size : Int))).toNat))),(4,.p 1 0)] ?_
 refine kZ ?_
 refine kR ?_
 have hmod : takenIn r n = (({ r with data := r.data.extract (max 0 (min n (r.data.size : Int))).toNat r.data.size }),(r.data.extract 0 (max 0 (min n (r.data.size : Int))).toNat)) := by first | rfl | (simp [takenIn,cut, *]; done) | grind [takenIn,cut]
 exact ⟨[.agg (rcvL { r with data := r.data.extract (max 0 (min n (r.data.size : Int))).toNat r.data.size } (.slice v1a r.held.length v1c)).toArray,.string (r.data.extract 0 (max 0 (min n (r.data.size : Int))).toNat)],by kernel_rfl,fun w' hb hf ha => by rw [hmod]; exact xo1 ((v1a,v1c)) rfl rfl (pW (hf _ m0) hB) hb⟩
theorem yl21State_c (c : Con) (c_r_heldV : Value) (w : World) (hl_c_r_heldV : Sl w c_r_heldV 2 (c.r.held.map pceCells))  : Calls Tryz.prog 144 #[.agg (conL c c_r_heldV).toArray] w fun e w' => e = .returned (.int .i64 (turnState c)) ∧ Below w.heap.size w w' := by
 obtain ⟨Acrh,Ccrh,hvcrh⟩ := hl_c_r_heldV.form
 rw [List.length_map] at hvcrh; subst hvcrh
 have hncrh := hl_c_r_heldV.len; rw [List.length_map] at hncrh
 have hqcrh := Sl.capLe hl_c_r_heldV
 refine x_calls (args := [.agg (conL c (.slice Acrh c.r.held.length Ccrh)).toArray]) (fn := Tryz.f144) [slF (.slice Acrh c.r.held.length Ccrh) 2 (c.r.held.map pceCells)] Tryz.func144 rfl Tryz.ntmps144 rfl (by simp only [List.mem_cons,List.not_mem_nil,or_false,forall_eq_or_imp,forall_eq]; exact ⟨rfl,hl_c_r_heldV⟩) ?_
 refine kQ ?_
 refine kEF [1] ⟨[(1,.p 0 0)],[⟨34,conL c (.slice Acrh c.r.held.length Ccrh)⟩],[],[slF (.slice Acrh c.r.held.length Ccrh) 2 (c.r.held.map pceCells)]⟩ ?_
 refine kS ?_
 refine kQ ?_
 refine kES [1,4] [(1,.p 0 0),(4,.v (.int .i64 c.state))] ?_
 refine xw_block ?_
 refine kQ ?_
 refine kES [1,4,5] [(1,.p 0 0),(4,.v (.int .i64 c.state)),(5,.v (.bool (c.state == 1)))] ?_
 refine kC (c.state == 1) (fun h1 => ?_) (fun h1 => ?_)
 have h1p := eqT h1
 refine kQ ?_
 refine kES [1,9] [(1,.p 0 0),(9,.v (.bool c.r.done))] ?_
 refine kC (c.r.done) (fun h2 => ?_) (fun h2 => ?_)
 refine kQ ?_
 refine kES [2] [(2,.v (.int .i64 4))] ?_
 refine kR ?_
 have hmod : turnState c = 4 := by first | rfl | (simp [turnState, *]; done) | grind [turnState]
 exact ⟨[.int .i64 4],by kernel_rfl,fun w' hb hf => by rw [hmod]; exact ⟨rfl,hb⟩⟩
 refine kK ?_
 refine kQ ?_
 refine kES [2] [(2,.v (.int .i64 c.state))] ?_
 refine kR ?_
 have hmod : turnState c = c.state := by first | rfl | (simp [turnState, *]; done) | grind [turnState]
 exact ⟨[.int .i64 c.state],by kernel_rfl,fun w' hb hf => by rw [hmod]; exact ⟨rfl,hb⟩⟩
 have h1p := eqF h1
 refine kQ ?_
 refine kES [1,4,10] [(1,.p 0 0),(4,.v (.int .i64 c.state)),(10,.v (.bool (c.state == 2)))] ?_
 refine kC (c.state == 2) (fun h3 => ?_) (fun h3 => ?_)
 have h3p := eqT h3
 refine xw_block ?_
 refine kS ?_
 refine xw_join ⟨[(1,.p 0 0),(12,.v (.bool (c.s.done && c.r.done)))],[⟨34,conL c (.slice Acrh c.r.held.length Ccrh)⟩],[],[slF (.slice Acrh c.r.held.length Ccrh) 2 (c.r.held.map pceCells)]⟩ ?_ ?_
 refine kG ?_
 refine kRS 4 [1,16] [(1,.p 0 0),(16,.v (.bool c.s.done))] ?_
 refine kP 16 (c.s.done) (fun h4 => ?_) (fun h4 => ?_)
 refine kES [1,12] [(1,.p 0 0),(12,.v (.bool c.r.done))] ?_
 show Wk _ _
 try rw [h4]
 exact kF 1 0 [1,12]
 refine kES [1,12] [(1,.p 0 0),(12,.v (.bool false))] ?_
 show Wk _ _
 try rw [h4]
 exact kF 1 0 [1,12]
 refine kC (c.s.done && c.r.done) (fun h5 => ?_) (fun h5 => ?_)
 have h5l := and_l h5
 have h5r := and_r h5
 refine kQ ?_
 refine kES [2] [(2,.v (.int .i64 7))] ?_
 refine kR ?_
 have hmod : turnState c = 7 := by first | rfl | (simp [turnState, *]; done) | grind [turnState]
 exact ⟨[.int .i64 7],by kernel_rfl,fun w' hb hf => by rw [hmod]; exact ⟨rfl,hb⟩⟩
 refine kQ ?_
 refine kES [1,21] [(1,.p 0 0),(21,.v (.bool c.s.done))] ?_
 refine kC (c.s.done) (fun h6 => ?_) (fun h6 => ?_)
 refine kQ ?_
 refine kES [2] [(2,.v (.int .i64 3))] ?_
 refine kR ?_
 have hmod : turnState c = 3 := by first | rfl | (simp [turnState, *]; done) | grind [turnState]
 exact ⟨[.int .i64 3],by kernel_rfl,fun w' hb hf => by rw [hmod]; exact ⟨rfl,hb⟩⟩
 refine kQ ?_
 refine kES [1,25] [(1,.p 0 0),(25,.v (.bool c.r.done))] ?_
 refine kC (c.r.done) (fun h7 => ?_) (fun h7 => ?_)
 refine kQ ?_
 refine kES [2] [(2,.v (.int .i64 5))] ?_
 refine kR ?_
 have hmod : turnState c = 5 := by first | rfl | (simp [turnState, *]; done) | grind [turnState]
 exact ⟨[.int .i64 5],by kernel_rfl,fun w' hb hf => by rw [hmod]; exact ⟨rfl,hb⟩⟩
 refine kK ?_
 refine kQ ?_
 refine kES [2] [(2,.v (.int .i64 c.state))] ?_
 refine kR ?_
 have hmod : turnState c = c.state := by first | rfl | (simp [turnState, *]; done) | grind [turnState]
 exact ⟨[.int .i64 c.state],by kernel_rfl,fun w' hb hf => by rw [hmod]; exact ⟨rfl,hb⟩⟩
 have h3p := eqF h3
 refine kQ ?_
 refine kES [1,4,29] [(1,.p 0 0),(4,.v (.int .i64 c.state)),(29,.v (.bool (c.state == 3)))] ?_
 refine kC (c.state == 3) (fun h8 => ?_) (fun h8 => ?_)
 have h8p := eqT h8
 refine kQ ?_
 refine kES [1,33] [(1,.p 0 0),(33,.v (.bool c.r.done))] ?_
 refine kC (c.r.done) (fun h9 => ?_) (fun h9 => ?_)
 refine kQ ?_
 refine kES [2] [(2,.v (.int .i64 7))] ?_
 refine kR ?_
 have hmod : turnState c = 7 := by first | rfl | (simp [turnState, *]; done) | grind [turnState]
 exact ⟨[.int .i64 7],by kernel_rfl,fun w' hb hf => by rw [hmod]; exact ⟨rfl,hb⟩⟩
 refine kK ?_
 refine kQ ?_
 refine kES [2] [(2,.v (.int .i64 c.state))] ?_
 refine kR ?_
 have hmod : turnState c = c.state := by first | rfl | (simp [turnState, *]; done) | grind [turnState]
 exact ⟨[.int .i64 c.state],by kernel_rfl,fun w' hb hf => by rw [hmod]; exact ⟨rfl,hb⟩⟩
 have h8p := eqF h8
 refine kQ ?_
 refine kES [1,4,34] [(1,.p 0 0),(4,.v (.int .i64 c.state)),(34,.v (.bool (c.state == 5)))] ?_
 refine kC (c.state == 5) (fun h10 => ?_) (fun h10 => ?_)
 have h10p := eqT h10
 refine kQ ?_
 refine kES [1,38] [(1,.p 0 0),(38,.v (.bool c.s.done))] ?_
 refine kC (c.s.done) (fun h11 => ?_) (fun h11 => ?_)
 refine kQ ?_
 refine kES [2] [(2,.v (.int .i64 7))] ?_
 refine kR ?_
 have hmod : turnState c = 7 := by first | rfl | (simp [turnState, *]; done) | grind [turnState]
 exact ⟨[.int .i64 7],by kernel_rfl,fun w' hb hf => by rw [hmod]; exact ⟨rfl,hb⟩⟩
 refine kK ?_
 refine kQ ?_
 refine kES [2] [(2,.v (.int .i64 c.state))] ?_
 refine kR ?_
 have hmod : turnState c = c.state := by first | rfl | (simp [turnState, *]; done) | grind [turnState]
 exact ⟨[.int .i64 c.state],by kernel_rfl,fun w' hb hf => by rw [hmod]; exact ⟨rfl,hb⟩⟩
 have h10p := eqF h10
 refine kQ ?_
 refine kES [1,39] [(1,.p 0 0),(39,.v (.bool (c.state == 6)))] ?_
 refine kC (c.state == 6) (fun h12 => ?_) (fun h12 => ?_)
 have h12p := eqT h12
 refine kQ ?_
 refine kES [1,43] [(1,.p 0 0),(43,.v (.bool c.s.done))] ?_
 refine kC (c.s.done) (fun h13 => ?_) (fun h13 => ?_)
 refine kQ ?_
 refine kES [2] [(2,.v (.int .i64 8))] ?_
 refine kR ?_
 have hmod : turnState c = 8 := by first | rfl | (simp [turnState, *]; done) | grind [turnState]
 exact ⟨[.int .i64 8],by kernel_rfl,fun w' hb hf => by rw [hmod]; exact ⟨rfl,hb⟩⟩
 refine kK ?_
 refine kQ ?_
 refine kES [2] [(2,.v (.int .i64 c.state))] ?_
 refine kR ?_
 have hmod : turnState c = c.state := by first | rfl | (simp [turnState, *]; done) | grind [turnState]
 exact ⟨[.int .i64 c.state],by kernel_rfl,fun w' hb hf => by rw [hmod]; exact ⟨rfl,hb⟩⟩
 have h12p := eqF h12
 refine kK ?_
 refine kQ ?_
 refine kES [2] [(2,.v (.int .i64 c.state))] ?_
 refine kR ?_
 have hmod : turnState c = c.state := by first | rfl | (simp [turnState, *]; done) | grind [turnState]
 exact ⟨[.int .i64 c.state],by kernel_rfl,fun w' hb hf => by rw [hmod]; exact ⟨rfl,hb⟩⟩
theorem ysTurned_c (c : Con) (c_r_heldV : Value) (w : World) (hl_c_r_heldV : Sl w c_r_heldV 2 (c.r.held.map pceCells)) (hkn : c.r.held.length ≤ 1048576)(hm : ∀ p ∈ c.r.held, p.text.size ≤ 1048576) (hsz : c.r.data.size ≤ 4611686018427387904) (B : Nat) (hB : B ≤ w.heap.size) : Calls Tryz.prog 140 #[.agg (conL c c_r_heldV).toArray] w fun e w' => XRs w w' e (α := Option Addr × Nat) (fun y => .agg (conL (turned c) (.slice y.1 ((turned c).r.held.length) y.2)).toArray) (fun y => [ownF B (.slice y.1 ((turned c).r.held.length) y.2) 2 ((turned c).r.held.map pceCells)]) := by
 obtain ⟨Acrh,Ccrh,hvcrh⟩ := hl_c_r_heldV.form
 rw [List.length_map] at hvcrh; subst hvcrh
 have hncrh := hl_c_r_heldV.len; rw [List.length_map] at hncrh
 have hqcrh := Sl.capLe hl_c_r_heldV
 have ht : conOk { c with state := turnState c,timer := 0 } = (conOk { c with state := turnState c,timer := 0,tries := 0 } && inB c.tries 0 3) := conOk_tries _
 refine x_callsA (args := [.agg (conL c (.slice Acrh c.r.held.length Ccrh)).toArray]) (fn := Tryz.f140) [slF (.slice Acrh c.r.held.length Ccrh) 2 (c.r.held.map pceCells)] Tryz.func140 rfl Tryz.ntmps140 rfl (by simp only [List.mem_cons,List.not_mem_nil,or_false,forall_eq_or_imp,forall_eq]; exact ⟨rfl,hl_c_r_heldV⟩) ?_
 refine kQ ?_
 refine kEF [1,2] ⟨[(1,.p 0 0),(2,.p 1 0)],[⟨34,conL c (.slice Acrh c.r.held.length Ccrh)⟩,⟨34,conZ⟩],[],[slF (.slice Acrh c.r.held.length Ccrh) 2 (c.r.held.map pceCells)]⟩ ?_
 refine kQ ?_
 refine kCS 1 [1,2,4] [(1,.p 0 0),(2,.p 1 0),(4,.v (.agg (conL c (.slice Acrh c.r.held.length Ccrh)).toArray))] 70 [.agg (conL c (.slice Acrh c.r.held.length Ccrh)).toArray] (some 5) rfl (xc_r fun ww hw hf => yl19Copy_c c (.slice Acrh c.r.held.length Ccrh) ww (hf _ m0) (by assumption) w.heap.size hw) ?_
 rintro ⟨v1a,v1c⟩
 refine kEF [1,2,3] ⟨[(1,.p 0 0),(2,.p 1 0),(3,.p 2 0)],[⟨34,conL c (.slice Acrh c.r.held.length Ccrh)⟩,⟨34,conZ⟩,⟨34,conL c (.slice v1a c.r.held.length v1c)⟩],[],[ownF w.heap.size (.slice v1a c.r.held.length v1c) 2 (c.r.held.map pceCells),slF (.slice Acrh c.r.held.length Ccrh) 2 (c.r.held.map pceCells)]⟩ ?_
 refine kQ ?_
 refine kCS 1 [1,2,3,6] [(1,.p 0 0),(2,.p 1 0),(3,.p 2 0),(6,.v (.agg (conL c (.slice Acrh c.r.held.length Ccrh)).toArray))] 144 [.agg (conL c (.slice Acrh c.r.held.length Ccrh)).toArray] (some 7) rfl (xc_b fun ww hf => yl21State_c c (.slice Acrh c.r.held.length Ccrh) ww (hf _ m1) ) ?_
 intro _
 refine kEF [1,2,3] ⟨[(1,.p 0 0),(2,.p 1 0),(3,.p 2 0)],[⟨34,conL c (.slice Acrh c.r.held.length Ccrh)⟩,⟨34,conZ⟩,⟨34,conL { c with state := (turnState c) } (.slice v1a c.r.held.length v1c)⟩],[],[ownF w.heap.size (.slice v1a c.r.held.length v1c) 2 (c.r.held.map pceCells),slF (.slice Acrh c.r.held.length Ccrh) 2 (c.r.held.map pceCells)]⟩ ?_
 refine kS ?_
 refine kS ?_
 refine xw_join ⟨[(1,.p 0 0),(2,.p 1 0),(3,.p 2 0),(37,.v (.bool ((!(conOk ({ c with state := (turnState c),timer := 0,tries := 0 }))) || ((!(inB c.timer 0 4)) || (!(inB c.tries 0 3))))))],[⟨34,conL c (.slice Acrh c.r.held.length Ccrh)⟩,⟨34,conZ⟩,⟨34,conL { c with state := (turnState c) } (.slice v1a c.r.held.length v1c)⟩],[],[ownF w.heap.size (.slice v1a c.r.held.length v1c) 2 (c.r.held.map pceCells),slF (.slice Acrh c.r.held.length Ccrh) 2 (c.r.held.map pceCells)]⟩ ?_ ?_
 refine kG ?_
 refine kOS 14 [1,2,3,10,12,14,16,18,20,22] [(1,.p 0 0),(2,.p 1 0),(3,.p 2 0),(10,.v (.agg (tupL c.t).toArray)),(12,.v (.int .i64 (turnState c))),(14,.v (.agg (sndL c.s).toArray)),(16,.v (.agg (rcvL c.r (.slice Acrh c.r.held.length Ccrh)).toArray)),(18,.v (.int .i64 c.window)),(20,.v (.int .i64 c.most)),(22,.v (.agg (optL c.o).toArray))] (.agg (conL { c with state := (turnState c),timer := 0,tries := 0 } (.slice Acrh c.r.held.length Ccrh)).toArray) rfl (fun _ _ _ ww hr => act_build [(0,.agg (tupL c.t).toArray),(1,.int .i64 (turnState c)),(2,.agg (sndL c.s).toArray),(3,.agg (rcvL c.r (.slice Acrh c.r.held.length Ccrh)).toArray),(4,.int .i64 c.window),(5,.int .i64 c.most),(6,.agg (optL c.o).toArray)] hr.1 rfl (by kernel_rfl) (by kernel_rfl) ww) ?_
 refine kCS 0 [1,2,3,23] [(1,.p 0 0),(2,.p 1 0),(3,.p 2 0),(23,.v (.agg (conL { c with state := (turnState c),timer := 0,tries := 0 } (.slice Acrh c.r.held.length Ccrh)).toArray))] 23 [.agg (conL { c with state := (turnState c),timer := 0,tries := 0 } (.slice Acrh c.r.held.length Ccrh)).toArray] (some 24) rfl (xc_b fun ww hf => ysConnOk_c ({ c with state := (turnState c),timer := 0,tries := 0 }) (.slice Acrh c.r.held.length Ccrh) ww (hf _ m1) (by assumption) (by omega)) ?_
 intro _
 refine kRS 2 [1,2,3,26] [(1,.p 0 0),(2,.p 1 0),(3,.p 2 0),(26,.v (.bool (!(conOk ({ c with state := (turnState c),timer := 0,tries := 0 })))))] ?_
 refine kP 26 (!(conOk ({ c with state := (turnState c),timer := 0,tries := 0 }))) (fun h2 => ?_) (fun h2 => ?_)
 have h2n := not_t h2
 refine kES [1,2,3,37] [(1,.p 0 0),(2,.p 1 0),(3,.p 2 0),(37,.v (.bool true))] ?_
 show Wk _ _
 try rw [h2]
 exact kF 3 0 [1,2,3,37]
 have h2n := not_f h2
 refine kCS 2 [1,2,3,26,28] [(1,.p 0 0),(2,.p 1 0),(3,.p 2 0),(26,.v (.bool false)),(28,.v (.int .i64 c.timer))] 78 [.int .i64 c.timer,.int .i64 0,.int .i64 4] (some 29) rfl (xc_s fun ww hf => l1In_c c.timer 0 4 ww ) ?_
 intro _
 refine kRS 3 [1,2,3,32] [(1,.p 0 0),(2,.p 1 0),(3,.p 2 0),(32,.v (.bool (!(inB c.timer 0 4))))] ?_
 refine kP 32 (!(inB c.timer 0 4)) (fun h3 => ?_) (fun h3 => ?_)
 have h3n := not_t h3
 have h3ni := inB_ff.1 (show inB c.timer 0 4 = false from by simpa using h3n)
 refine kES [1,2,3,37] [(1,.p 0 0),(2,.p 1 0),(3,.p 2 0),(37,.v (.bool true))] ?_
 show Wk _ _
 try rw [h2]
 try rw [h3]
 exact kF 3 0 [1,2,3,37]
 have h3n := not_f h3
 have h3ni := inB_tt.1 (show inB c.timer 0 4 = true from by simpa using h3n)
 refine kCS 2 [1,2,3,32,34] [(1,.p 0 0),(2,.p 1 0),(3,.p 2 0),(32,.v (.bool false)),(34,.v (.int .i64 c.tries))] 78 [.int .i64 c.tries,.int .i64 0,.int .i64 3] (some 35) rfl (xc_s fun ww hf => l1In_c c.tries 0 3 ww ) ?_
 intro _
 refine kES [1,2,3,37] [(1,.p 0 0),(2,.p 1 0),(3,.p 2 0),(37,.v (.bool (!(inB c.tries 0 3))))] ?_
 show Wk _ _
 try rw [h2]
 try rw [h3]
 exact kF 3 0 [1,2,3,37]
 refine kC ((!(conOk ({ c with state := (turnState c),timer := 0,tries := 0 }))) || ((!(inB c.timer 0 4)) || (!(inB c.tries 0 3)))) (fun h4 => ?_) (fun h4 => ?_)
 refine kQ ?_
 refine kCS 1 [2,38] [(2,.p 1 0),(38,.v (.agg (conL c (.slice Acrh c.r.held.length Ccrh)).toArray))] 70 [.agg (conL c (.slice Acrh c.r.held.length Ccrh)).toArray] (some 39) rfl (xc_r fun ww hw hf => yl19Copy_c c (.slice Acrh c.r.held.length Ccrh) ww (hf _ m1) (by assumption) w.heap.size hw) ?_
 rintro ⟨v5a,v5c⟩
 refine kEF [2] ⟨[(2,.p 1 0)],[⟨34,conL c (.slice Acrh c.r.held.length Ccrh)⟩,⟨34,conL c (.slice v5a c.r.held.length v5c)⟩,⟨34,conL { c with state := (turnState c) } (.slice v1a c.r.held.length v1c)⟩],[],[ownF w.heap.size (.slice v5a c.r.held.length v5c) 2 (c.r.held.map pceCells),ownF w.heap.size (.slice v1a c.r.held.length v1c) 2 (c.r.held.map pceCells),slF (.slice Acrh c.r.held.length Ccrh) 2 (c.r.held.map pceCells)]⟩ ?_
 refine kR ?_
 have hmod : turned c = c := by first | rfl | (simp [turned, *]; done) | grind [turned] | grind [turned,turnState]
 exact ⟨[.agg (conL c (.slice v5a c.r.held.length v5c)).toArray],by kernel_rfl,fun w' hb hf ha => by rw [hmod]; exact xo1 ((v5a,v5c)) rfl rfl (pO (hf _ m0) hB) hb⟩
 have h4l := or_l h4
 have h4ln := not_f h4l
 have h4r := or_r h4
 have h4rl := or_l h4r
 have h4rln := not_f h4rl
 have h4rlni := inB_tt.1 (show inB c.timer 0 4 = true from by simpa using h4rln)
 have h4rr := or_r h4r
 have h4rrn := not_f h4rr
 have h4rrni := inB_tt.1 (show inB c.tries 0 3 = true from by simpa using h4rrn)
 refine kK ?_
 refine kS ?_
 refine kQ ?_
 refine kES [2,3,44] [(2,.p 1 0),(3,.p 2 0),(44,.v (.bool ((turnState c) == c.state)))] ?_
 refine kC ((turnState c) == c.state) (fun h6 => ?_) (fun h6 => ?_)
 have h6p := eqT h6
 refine kQ ?_
 refine kEF [2] ⟨[(2,.p 1 0)],[⟨34,conL c (.slice Acrh c.r.held.length Ccrh)⟩,⟨34,conL { c with state := (turnState c) } (.slice v1a c.r.held.length v1c)⟩,⟨34,conL { c with state := (turnState c) } (.slice v1a c.r.held.length v1c)⟩],[],[ownF w.heap.size (.slice v1a c.r.held.length v1c) 2 (c.r.held.map pceCells),slF (.slice Acrh c.r.held.length Ccrh) 2 (c.r.held.map pceCells)]⟩ ?_
 refine kR ?_
 have hmod : turned c = ({ c with state := (turnState c) }) := by first | rfl | (simp [turned, *]; done) | grind [turned] | grind [turned,turnState]
 exact ⟨[.agg (conL { c with state := (turnState c) } (.slice v1a c.r.held.length v1c)).toArray],by kernel_rfl,fun w' hb hf ha => by rw [hmod]; exact xo1 ((v1a,v1c)) rfl rfl (pO (hf _ m0) hB) hb⟩
 have h6p := eqF h6
 refine kK ?_
 refine kS ?_
 refine kQ ?_
 refine kES [2,3,48] [(2,.p 1 0),(3,.p 2 0),(48,.v (.bool ((turnState c) == 7)))] ?_
 refine xw_join ⟨[(2,.p 1 0),(3,.p 2 0)],[⟨34,conL c (.slice Acrh c.r.held.length Ccrh)⟩,⟨34,conZ⟩,⟨34,conL { c with state := (turnState c),timer := if ((turnState c) == 7) = true then 4 else c.timer,tries := if ((turnState c) == 7) = true then 0 else c.tries } (.slice v1a c.r.held.length v1c)⟩],[],[ownF w.heap.size (.slice v1a c.r.held.length v1c) 2 (c.r.held.map pceCells),slF (.slice Acrh c.r.held.length Ccrh) 2 (c.r.held.map pceCells)]⟩ ?_ ?_
 refine kC ((turnState c) == 7) (fun h7 => ?_) (fun h7 => ?_)
 have h7p := eqT h7
 refine kQ ?_
 refine kEF [2,3] ⟨[(2,.p 1 0),(3,.p 2 0)],[⟨34,conL c (.slice Acrh c.r.held.length Ccrh)⟩,⟨34,conZ⟩,⟨34,conL { c with state := (turnState c),timer := 4 } (.slice v1a c.r.held.length v1c)⟩],[],[ownF w.heap.size (.slice v1a c.r.held.length v1c) 2 (c.r.held.map pceCells),slF (.slice Acrh c.r.held.length Ccrh) 2 (c.r.held.map pceCells)]⟩ ?_
 refine kG ?_
 refine kEF [2,3] ⟨[(2,.p 1 0),(3,.p 2 0)],[⟨34,conL c (.slice Acrh c.r.held.length Ccrh)⟩,⟨34,conZ⟩,⟨34,conL { c with state := (turnState c),timer := 4,tries := 0 } (.slice v1a c.r.held.length v1c)⟩],[],[ownF w.heap.size (.slice v1a c.r.held.length v1c) 2 (c.r.held.map pceCells),slF (.slice Acrh c.r.held.length Ccrh) 2 (c.r.held.map pceCells)]⟩ ?_
 show Wk _ _; rw [h7]; exact kF 3 0 [2,3]
 have h7p := eqF h7
 refine kK ?_
 show Wk _ _; rw [h7]; exact kF 3 0 [2,3]
 refine kS ?_
 refine kQ ?_
 refine kES [2,3,53] [(2,.p 1 0),(3,.p 2 0),(53,.v (.bool ((turnState c) == 8)))] ?_
 refine xw_join ⟨[(2,.p 1 0),(3,.p 2 0)],[⟨34,conL c (.slice Acrh c.r.held.length Ccrh)⟩,⟨34,conZ⟩,⟨34,conL { c with state := (turnState c),timer := if ((turnState c) == 8) = true then 0 else if ((turnState c) == 7) = true then 4 else c.timer,tries := if ((turnState c) == 8) = true then 0 else if ((turnState c) == 7) = true then 0 else c.tries } (.slice v1a c.r.held.length v1c)⟩],[],[ownF w.heap.size (.slice v1a c.r.held.length v1c) 2 (c.r.held.map pceCells),slF (.slice Acrh c.r.held.length Ccrh) 2 (c.r.held.map pceCells)]⟩ ?_ ?_
 refine kC ((turnState c) == 8) (fun h8 => ?_) (fun h8 => ?_)
 have h8p := eqT h8
 refine kQ ?_
 refine kEF [2,3] ⟨[(2,.p 1 0),(3,.p 2 0)],[⟨34,conL c (.slice Acrh c.r.held.length Ccrh)⟩,⟨34,conZ⟩,⟨34,conL { c with state := (turnState c),timer := 0,tries := if ((turnState c) == 7) = true then 0 else c.tries } (.slice v1a c.r.held.length v1c)⟩],[],[ownF w.heap.size (.slice v1a c.r.held.length v1c) 2 (c.r.held.map pceCells),slF (.slice Acrh c.r.held.length Ccrh) 2 (c.r.held.map pceCells)]⟩ ?_
 refine kG ?_
 refine kEF [2,3] ⟨[(2,.p 1 0),(3,.p 2 0)],[⟨34,conL c (.slice Acrh c.r.held.length Ccrh)⟩,⟨34,conZ⟩,⟨34,conL { c with state := (turnState c),timer := 0,tries := 0 } (.slice v1a c.r.held.length v1c)⟩],[],[ownF w.heap.size (.slice v1a c.r.held.length v1c) 2 (c.r.held.map pceCells),slF (.slice Acrh c.r.held.length Ccrh) 2 (c.r.held.map pceCells)]⟩ ?_
 show Wk _ _; rw [h8]; exact kF 3 0 [2,3]
 have h8p := eqF h8
 refine kK ?_
 show Wk _ _; rw [h8]; exact kF 3 0 [2,3]
 refine kQ ?_
 refine kEF [2] ⟨[(2,.p 1 0)],[⟨34,conL c (.slice Acrh c.r.held.length Ccrh)⟩,⟨34,conL { c with state := (turnState c),timer := if ((turnState c) == 8) = true then 0 else if ((turnState c) == 7) = true then 4 else c.timer,tries := if ((turnState c) == 8) = true then 0 else if ((turnState c) == 7) = true then 0 else c.tries } (.slice v1a c.r.held.length v1c)⟩,⟨34,conL { c with state := (turnState c),timer := if ((turnState c) == 8) = true then 0 else if ((turnState c) == 7) = true then 4 else c.timer,tries := if ((turnState c) == 8) = true then 0 else if ((turnState c) == 7) = true then 0 else c.tries } (.slice v1a c.r.held.length v1c)⟩],[],[ownF w.heap.size (.slice v1a c.r.held.length v1c) 2 (c.r.held.map pceCells),slF (.slice Acrh c.r.held.length Ccrh) 2 (c.r.held.map pceCells)]⟩ ?_
 refine kR ?_
 have hmod : turned c = ({ c with state := (turnState c),timer := if ((turnState c) == 8) = true then 0 else if ((turnState c) == 7) = true then 4 else c.timer,tries := if ((turnState c) == 8) = true then 0 else if ((turnState c) == 7) = true then 0 else c.tries }) := by first | rfl | (simp [turned, *]; done) | grind [turned] | grind [turned,turnState]
 exact ⟨[.agg (conL { c with state := (turnState c),timer := if ((turnState c) == 8) = true then 0 else if ((turnState c) == 7) = true then 4 else c.timer,tries := if ((turnState c) == 8) = true then 0 else if ((turnState c) == 7) = true then 0 else c.tries } (.slice v1a c.r.held.length v1c)).toArray],by kernel_rfl,fun w' hb hf ha => by rw [hmod]; exact xo1 ((v1a,v1c)) rfl rfl (pO (hf _ m0) hB) hb⟩
theorem ysReadConn_c (c : Con) (c_r_heldV : Value) (n : Int) (w : World) (hl_c_r_heldV : Sl w c_r_heldV 2 (c.r.held.map pceCells)) (hkn : c.r.held.length ≤ 1048576)(hm : ∀ p ∈ c.r.held, p.text.size ≤ 1048576) (hsz : c.r.data.size ≤ 4611686018427387904) (B : Nat) (hB : B ≤ w.heap.size) : Calls Tryz.prog 20 #[.agg (conL c c_r_heldV).toArray, .int .i64 n] w fun e w' => XRs w w' e (α := (Option Addr × Nat) × (Option Addr × Nat)) (fun y => .tuple #[.agg (conL (readConn c n).1 (.slice y.1.1 ((readConn c n).1.r.held.length) y.1.2)).toArray, .string ((readConn c n).2.1), .slice y.2.1 ((readConn c n).2.2.length) y.2.2]) (fun y => [ownF B (.slice y.1.1 ((readConn c n).1.r.held.length) y.1.2) 2 ((readConn c n).1.r.held.map pceCells), ownF B (.slice y.2.1 ((readConn c n).2.2.length) y.2.2) 13 ((readConn c n).2.2.map segCells)]) := by
 obtain ⟨Acrh,Ccrh,hvcrh⟩ := hl_c_r_heldV.form
 rw [List.length_map] at hvcrh; subst hvcrh
 have hncrh := hl_c_r_heldV.len; rw [List.length_map] at hncrh
 have hqcrh := Sl.capLe hl_c_r_heldV
 have hwb := windowOf_bd (takenIn c.r n).1
 refine x_callsA (args := [.agg (conL c (.slice Acrh c.r.held.length Ccrh)).toArray,.int .i64 n]) (fn := Tryz.f20) [slF (.slice Acrh c.r.held.length Ccrh) 2 (c.r.held.map pceCells)] Tryz.func20 rfl Tryz.ntmps20 rfl (by simp only [List.mem_cons,List.not_mem_nil,or_false,forall_eq_or_imp,forall_eq]; exact ⟨rfl,hl_c_r_heldV⟩) ?_
 refine kQ ?_
 refine kEF [1,2,4] ⟨[(1,.v (.int .i64 n)),(2,.p 0 0),(4,.p 1 0)],[⟨34,conL c (.slice Acrh c.r.held.length Ccrh)⟩,⟨34,conZ⟩],[],[slF (.slice Acrh c.r.held.length Ccrh) 2 (c.r.held.map pceCells)]⟩ ?_
 refine kQ ?_
 refine kCS 1 [1,2,4,11] [(1,.v (.int .i64 n)),(2,.p 0 0),(4,.p 1 0),(11,.v (.agg (conL c (.slice Acrh c.r.held.length Ccrh)).toArray))] 70 [.agg (conL c (.slice Acrh c.r.held.length Ccrh)).toArray] (some 12) rfl (xc_r fun ww hw hf => yl19Copy_c c (.slice Acrh c.r.held.length Ccrh) ww (hf _ m0) (by assumption) w.heap.size hw) ?_
 rintro ⟨v1a,v1c⟩
 refine kEF [1,2,4,7] ⟨[(1,.v (.int .i64 n)),(2,.p 0 0),(4,.p 1 0),(7,.p 2 0)],[⟨34,conL c (.slice Acrh c.r.held.length Ccrh)⟩,⟨34,conZ⟩,⟨34,conL c (.slice v1a c.r.held.length v1c)⟩],[],[ownF w.heap.size (.slice v1a c.r.held.length v1c) 2 (c.r.held.map pceCells),slF (.slice Acrh c.r.held.length Ccrh) 2 (c.r.held.map pceCells)]⟩ ?_
 refine kQ ?_
 refine kHS 0 [1,2,4,7] [(1,.v (.int .i64 n)),(2,.p 0 0),(4,.p 1 0),(7,.p 2 0)] rfl (hv_build (e := 36) (K := 13) (bytes := 104) [] rfl (by kernel_rfl) (by kernel_rfl) (by kernel_rfl) (by kernel_rfl) (by kernel_rfl) (rs := ([] : List Seg).map segCells) rfl) ?_
 intro g2
 refine kES [1,2,4,7,8] [(1,.v (.int .i64 n)),(2,.p 0 0),(4,.p 1 0),(7,.p 2 0),(8,.v (.slice (some ⟨g2,0,none⟩) 0 0))] ?_
 refine kS ?_
 refine kQ ?_
 refine kCS 1 [1,2,4,7,8,14] [(1,.v (.int .i64 n)),(2,.p 0 0),(4,.p 1 0),(7,.p 2 0),(8,.v (.slice (some ⟨g2,0,none⟩) 0 0)),(14,.v (.agg (conL c (.slice Acrh c.r.held.length Ccrh)).toArray))] 23 [.agg (conL c (.slice Acrh c.r.held.length Ccrh)).toArray] (some 15) rfl (xc_b fun ww hf => ysConnOk_c c (.slice Acrh c.r.held.length Ccrh) ww (hf _ m2) (by assumption) (by omega)) ?_
 intro _
 refine kES [1,2,4,7,8,16] [(1,.v (.int .i64 n)),(2,.p 0 0),(4,.p 1 0),(7,.p 2 0),(8,.v (.slice (some ⟨g2,0,none⟩) 0 0)),(16,.v (.bool (!(conOk c))))] ?_
 refine kC (!(conOk c)) (fun h3 => ?_) (fun h3 => ?_)
 have h3n := not_t h3
 refine kQ ?_
 refine kEF [4,5,6] ⟨[(4,.p 1 0),(5,.v (.string (⟨#[]⟩ : ByteArray))),(6,.v (.slice (some ⟨g2,0,none⟩) 0 0))],[⟨34,conL c (.slice Acrh c.r.held.length Ccrh)⟩,⟨34,conL c (.slice v1a c.r.held.length v1c)⟩,⟨34,conL c (.slice v1a c.r.held.length v1c)⟩],[],[rowF w.heap.size 36 13 (.slice (some ⟨g2,0,none⟩) 0 0) (([] : List Seg).map segCells),ownF w.heap.size (.slice v1a c.r.held.length v1c) 2 (c.r.held.map pceCells),slF (.slice Acrh c.r.held.length Ccrh) 2 (c.r.held.map pceCells)]⟩ ?_
 refine kR ?_
 have hmod : readConn c n = (c,(⟨#[]⟩ : ByteArray),([] : List Seg)) := by first | rfl | (simp [readConn,ackOf, *]; done) | grind [readConn,ackOf]
 exact ⟨[.agg (conL c (.slice v1a c.r.held.length v1c)).toArray,.string (⟨#[]⟩ : ByteArray),.slice (some ⟨g2,0,none⟩) 0 0],by kernel_rfl,fun w' hb hf ha => by rw [hmod]; exact xo2 ((v1a,v1c),(((some ⟨g2,0,none⟩) : Option Addr),0)) rfl rfl (pO (hf _ m1) hB) (pR (hf _ m0) hB) (Apart.sub2 ha (i := 1) (j := 0) rfl rfl (by decide) rfl (fun b h => h) (fun b h => rowF_blk h)) hb⟩
 have h3n := not_f h3
 refine kK ?_
 refine kQ ?_
 refine kCS 3 [2,4,7,8,21,22] [(2,.p 0 0),(4,.p 1 0),(7,.p 2 0),(8,.v (.slice (some ⟨g2,0,none⟩) 0 0)),(21,.v (.agg (rcvL c.r (.slice Acrh c.r.held.length Ccrh)).toArray)),(22,.v (.int .i64 n))] 71 [.agg (rcvL c.r (.slice Acrh c.r.held.length Ccrh)).toArray,.int .i64 n] (some 23) rfl (xc_r fun ww hw hf => ysTakenIn_c c.r (.slice Acrh c.r.held.length Ccrh) n ww (hf _ m2) (by assumption) (by assumption) (by omega) w.heap.size hw) ?_
 rintro ⟨v4a,v4c⟩
 have htk5 : (takenIn c.r n).1.data.size ≤ _ := takenIn_sz _ _
 refine kEF [2,4,7,8,9,10] ⟨[(2,.p 0 0),(4,.p 1 0),(7,.p 2 0),(8,.v (.slice (some ⟨g2,0,none⟩) 0 0)),(9,.p 3 0),(10,.v (.string ((takenIn c.r n).2)))],[⟨34,conL c (.slice Acrh c.r.held.length Ccrh)⟩,⟨34,conZ⟩,⟨34,conL c (.slice v1a c.r.held.length v1c)⟩,⟨30,rcvL (takenIn c.r n).1 (.slice v4a ((takenIn c.r n).1.held.length) v4c)⟩],[],[rowF w.heap.size 108 2 (.slice v4a ((takenIn c.r n).1.held.length) v4c) ((takenIn c.r n).1.held.map pceCells),rowF w.heap.size 36 13 (.slice (some ⟨g2,0,none⟩) 0 0) (([] : List Seg).map segCells),ownF w.heap.size (.slice v1a c.r.held.length v1c) 2 (c.r.held.map pceCells),slF (.slice Acrh c.r.held.length Ccrh) 2 (c.r.held.map pceCells)]⟩ ?_
 refine kQ ?_
 refine kEF [2,4,7,8,9,10] ⟨[(2,.p 0 0),(4,.p 1 0),(7,.p 2 0),(8,.v (.slice (some ⟨g2,0,none⟩) 0 0)),(9,.p 3 0),(10,.v (.string ((takenIn c.r n).2)))],[⟨34,conL c (.slice Acrh c.r.held.length Ccrh)⟩,⟨34,conZ⟩,⟨34,conL { c with r := (takenIn c.r n).1 } (.slice v4a ((takenIn c.r n).1.held.length) v4c)⟩,⟨30,rcvL (takenIn c.r n).1 (.slice v4a ((takenIn c.r n).1.held.length) v4c)⟩],[],[rowF w.heap.size 108 2 (.slice v4a ((takenIn c.r n).1.held.length) v4c) ((takenIn c.r n).1.held.map pceCells),rowF w.heap.size 36 13 (.slice (some ⟨g2,0,none⟩) 0 0) (([] : List Seg).map segCells),ownF w.heap.size (.slice v1a c.r.held.length v1c) 2 (c.r.held.map pceCells),slF (.slice Acrh c.r.held.length Ccrh) 2 (c.r.held.map pceCells)]⟩ ?_
 refine kS ?_
 refine kS ?_
 refine xw_join ⟨[(4,.p 1 0),(7,.p 2 0),(8,.v (.slice (some ⟨g2,0,none⟩) 0 0)),(10,.v (.string ((takenIn c.r n).2))),(46,.v (.bool (((windowOf c.r) == 0) && ((decide ((windowOf ((takenIn c.r n).1)) > 0)) && ((c.state != 8) && (c.state != 7))))))],[⟨34,conL c (.slice Acrh c.r.held.length Ccrh)⟩,⟨34,conZ⟩,⟨34,conL { c with r := (takenIn c.r n).1 } (.slice v4a ((takenIn c.r n).1.held.length) v4c)⟩,⟨30,rcvL (takenIn c.r n).1 (.slice v4a ((takenIn c.r n).1.held.length) v4c)⟩],[],[rowF w.heap.size 108 2 (.slice v4a ((takenIn c.r n).1.held.length) v4c) ((takenIn c.r n).1.held.map pceCells),rowF w.heap.size 36 13 (.slice (some ⟨g2,0,none⟩) 0 0) (([] : List Seg).map segCells),ownF w.heap.size (.slice v1a c.r.held.length v1c) 2 (c.r.held.map pceCells),slF (.slice Acrh c.r.held.length Ccrh) 2 (c.r.held.map pceCells)]⟩ ?_ ?_
 refine kG ?_
 refine kCS 2 [2,4,7,8,9,10,29] [(2,.p 0 0),(4,.p 1 0),(7,.p 2 0),(8,.v (.slice (some ⟨g2,0,none⟩) 0 0)),(9,.p 3 0),(10,.v (.string ((takenIn c.r n).2))),(29,.v (.agg (rcvL c.r (.slice Acrh c.r.held.length Ccrh)).toArray))] 53 [.agg (rcvL c.r (.slice Acrh c.r.held.length Ccrh)).toArray] (some 30) rfl (xc_b fun ww hf => sWindowOf_c c.r.next c.r.data c.r.held (.slice Acrh c.r.held.length Ccrh) c.r.fin c.r.done ww (by omega)) ?_
 intro _
 refine kRS 2 [2,4,7,8,9,10,32] [(2,.p 0 0),(4,.p 1 0),(7,.p 2 0),(8,.v (.slice (some ⟨g2,0,none⟩) 0 0)),(9,.p 3 0),(10,.v (.string ((takenIn c.r n).2))),(32,.v (.bool ((windowOf c.r) == 0)))] ?_
 refine kP 32 ((windowOf c.r) == 0) (fun h6 => ?_) (fun h6 => ?_)
 have h6p := eqT h6
 refine kCS 1 [2,4,7,8,10,32,33] [(2,.p 0 0),(4,.p 1 0),(7,.p 2 0),(8,.v (.slice (some ⟨g2,0,none⟩) 0 0)),(10,.v (.string ((takenIn c.r n).2))),(32,.v (.bool true)),(33,.v (.agg (rcvL (takenIn c.r n).1 (.slice v4a ((takenIn c.r n).1.held.length) v4c)).toArray))] 53 [.agg (rcvL (takenIn c.r n).1 (.slice v4a ((takenIn c.r n).1.held.length) v4c)).toArray] (some 34) rfl (xc_b fun ww hf => sWindowOf_c ((takenIn c.r n).1.next) ((takenIn c.r n).1.data) ((takenIn c.r n).1.held) (.slice v4a ((takenIn c.r n).1.held.length) v4c) ((takenIn c.r n).1.fin) ((takenIn c.r n).1.done) ww (by omega)) ?_
 intro _
 refine kRS 3 [2,4,7,8,10,37] [(2,.p 0 0),(4,.p 1 0),(7,.p 2 0),(8,.v (.slice (some ⟨g2,0,none⟩) 0 0)),(10,.v (.string ((takenIn c.r n).2))),(37,.v (.bool (decide ((windowOf ((takenIn c.r n).1)) > 0))))] ?_
 refine kP 37 (decide ((windowOf ((takenIn c.r n).1)) > 0)) (fun h7 => ?_) (fun h7 => ?_)
 have h7p := of_decide_eq_true h7
 refine kRS 5 [2,4,7,8,10,42] [(2,.p 0 0),(4,.p 1 0),(7,.p 2 0),(8,.v (.slice (some ⟨g2,0,none⟩) 0 0)),(10,.v (.string ((takenIn c.r n).2))),(42,.v (.bool (c.state != 8)))] ?_
 refine kP 42 (c.state != 8) (fun h8 => ?_) (fun h8 => ?_)
 have h8p := neT h8
 refine kES [4,7,8,10,46] [(4,.p 1 0),(7,.p 2 0),(8,.v (.slice (some ⟨g2,0,none⟩) 0 0)),(10,.v (.string ((takenIn c.r n).2))),(46,.v (.bool (c.state != 7)))] ?_
 show Wk _ _
 try rw [h6]
 try rw [h7]
 try rw [h8]
 exact kF 4 0 [4,7,8,10,46]
 have h8p := neF h8
 refine kES [4,7,8,10,46] [(4,.p 1 0),(7,.p 2 0),(8,.v (.slice (some ⟨g2,0,none⟩) 0 0)),(10,.v (.string ((takenIn c.r n).2))),(46,.v (.bool false))] ?_
 show Wk _ _
 try rw [h6]
 try rw [h7]
 try rw [h8]
 exact kF 4 0 [4,7,8,10,46]
 have h7p := of_decide_eq_false h7
 refine kES [4,7,8,10,46] [(4,.p 1 0),(7,.p 2 0),(8,.v (.slice (some ⟨g2,0,none⟩) 0 0)),(10,.v (.string ((takenIn c.r n).2))),(46,.v (.bool false))] ?_
 show Wk _ _
 try rw [h6]
 try rw [h7]
 exact kF 4 0 [4,7,8,10,46]
 have h6p := eqF h6
 refine kES [4,7,8,10,46] [(4,.p 1 0),(7,.p 2 0),(8,.v (.slice (some ⟨g2,0,none⟩) 0 0)),(10,.v (.string ((takenIn c.r n).2))),(46,.v (.bool false))] ?_
 show Wk _ _
 try rw [h6]
 exact kF 4 0 [4,7,8,10,46]
 refine kC (((windowOf c.r) == 0) && ((decide ((windowOf ((takenIn c.r n).1)) > 0)) && ((c.state != 8) && (c.state != 7)))) (fun h9 => ?_) (fun h9 => ?_)
 have h9l := and_l h9
 have h9lp := eqT h9l
 have h9r := and_r h9
 have h9rl := and_l h9r
 have h9rr := and_r h9r
 have h9rrl := and_l h9rr
 have h9rrlp := neT h9rrl
 have h9rrr := and_r h9rr
 have h9rrrp := neT h9rrr
 refine kS ?_
 refine xw_joinE (α := Nat) (fun y => (fun (g11 : Nat) => (⟨[(4,.p 1 0),(5,.v (.string ((takenIn c.r n).2))),(6,.v (.slice (some ⟨g11,0,none⟩) 1 1))],[⟨34,conL c (.slice Acrh c.r.held.length Ccrh)⟩,⟨34,conL { c with r := (takenIn c.r n).1 } (.slice v4a ((takenIn c.r n).1.held.length) v4c)⟩,⟨34,conL { c with r := (takenIn c.r n).1 } (.slice v4a ((takenIn c.r n).1.held.length) v4c)⟩,⟨30,rcvL (takenIn c.r n).1 (.slice v4a ((takenIn c.r n).1.held.length) v4c)⟩],[],[rowF w.heap.size 36 13 (.slice (some ⟨g11,0,none⟩) 1 1) (([⟨c.t.my,c.t.port,nextOf c.s,(takenIn c.r n).1.next,16,windowOf ((takenIn c.r n).1),⟨0,(-1),false,false,0,0⟩,(⟨#[]⟩ : ByteArray)⟩] : List Seg).map segCells),rowF w.heap.size 108 2 (.slice v4a ((takenIn c.r n).1.held.length) v4c) ((takenIn c.r n).1.held.map pceCells),rowF w.heap.size 36 13 (.slice (some ⟨g2,0,none⟩) 0 0) (([] : List Seg).map segCells),ownF w.heap.size (.slice v1a c.r.held.length v1c) 2 (c.r.held.map pceCells),slF (.slice Acrh c.r.held.length Ccrh) 2 (c.r.held.map pceCells)]⟩ : St)) y) ?_ ?_
 refine xe_region0 [true,false,true,true] (by kernel_rfl) (fun ρ σ => ?_)
 refine kTS [0,1,2] [49,48,47,4] 5 [(49,.v (.agg (conL { c with r := (takenIn c.r n).1 } (.slice v4a ((takenIn c.r n).1.held.length) v4c)).toArray)),(48,.v (.string ((takenIn c.r n).2))),(47,.v (.agg (conL { c with r := (takenIn c.r n).1 } (.slice v4a ((takenIn c.r n).1.held.length) v4c)).toArray)),(4,.p 1 0)] ?_
 refine kA [3] ?_
 refine kSC 3 72 [.agg (conL { c with r := (takenIn c.r n).1 } (.slice v4a ((takenIn c.r n).1.held.length) v4c)).toArray] (some 50) rfl (xc_b fun ww hf => sAckOf_c c.t.ip c.t.port c.t.my c.state c.s.una c.s.data c.s.sent c.s.fin c.s.finSent c.s.done ((takenIn c.r n).1.next) ((takenIn c.r n).1.data) ((takenIn c.r n).1.held) (.slice v4a ((takenIn c.r n).1.held.length) v4c) ((takenIn c.r n).1.fin) ((takenIn c.r n).1.done) c.window c.most c.o.mss c.o.scale c.o.sack c.o.stamp c.o.val c.o.echo c.timer c.tries ww (by omega)) ?_
 intro _
 refine kA [4,5] ⟨?_,?_⟩
 refine kSH 4 rfl (under_t (under_f rfl (under_t (under_t under_nil)))) (hv_build (e := 36) (K := 13) (bytes := 104) [.agg #[.int .i64 c.t.my,.int .i64 c.t.port,.int .i64 (nextOf c.s),.int .i64 ((takenIn c.r n).1.next),.int .i64 16,.int .i64 (windowOf ((takenIn c.r n).1)),.int .i64 0,.int .i64 (-1),.bool false,.bool false,.int .i64 0,.int .i64 0,.string (⟨#[]⟩ : ByteArray)]] rfl (by kernel_rfl) (by kernel_rfl) (by kernel_rfl) (by kernel_rfl) (by kernel_rfl) (rs := ([⟨c.t.my,c.t.port,nextOf c.s,(takenIn c.r n).1.next,16,windowOf ((takenIn c.r n).1),⟨0,(-1),false,false,0,0⟩,(⟨#[]⟩ : ByteArray)⟩] : List Seg).map segCells) rfl) ?_
 intro g11
 refine kA [5] ?_
 refine kSS 5 1 0 (conL { c with r := (takenIn c.r n).1 } (.slice v4a ((takenIn c.r n).1.held.length) v4c)) rfl ?_
 refine kTS [6,7] [6,5,4] 0 [(6,.v (.slice (some ⟨g11,0,none⟩) 1 1)),(5,.v (.string ((takenIn c.r n).2))),(4,.p 1 0)] ?_
 refine kZ ?_
 exact ⟨(g11),kF 4 0 [4,5,6]⟩
 refine kSS 5 1 0 (conL { c with r := (takenIn c.r n).1 } (.slice v4a ((takenIn c.r n).1.held.length) v4c)) rfl ?_
 refine kTS [6] [5,50,4] 2 [(5,.v (.string ((takenIn c.r n).2))),(50,.v (.agg #[.int .i64 c.t.my,.int .i64 c.t.port,.int .i64 (nextOf c.s),.int .i64 ((takenIn c.r n).1.next),.int .i64 16,.int .i64 (windowOf ((takenIn c.r n).1)),.int .i64 0,.int .i64 (-1),.bool false,.bool false,.int .i64 0,.int .i64 0,.string (⟨#[]⟩ : ByteArray)])),(4,.p 1 0)] ?_
 refine kA [4] ?_
 refine kSH 4 rfl (under_t (under_f rfl (under_t (under_t under_nil)))) (hv_build (e := 36) (K := 13) (bytes := 104) [.agg #[.int .i64 c.t.my,.int .i64 c.t.port,.int .i64 (nextOf c.s),.int .i64 ((takenIn c.r n).1.next),.int .i64 16,.int .i64 (windowOf ((takenIn c.r n).1)),.int .i64 0,.int .i64 (-1),.bool false,.bool false,.int .i64 0,.int .i64 0,.string (⟨#[]⟩ : ByteArray)]] rfl (by kernel_rfl) (by kernel_rfl) (by kernel_rfl) (by kernel_rfl) (by kernel_rfl) (rs := ([⟨c.t.my,c.t.port,nextOf c.s,(takenIn c.r n).1.next,16,windowOf ((takenIn c.r n).1),⟨0,(-1),false,false,0,0⟩,(⟨#[]⟩ : ByteArray)⟩] : List Seg).map segCells) rfl) ?_
 intro g13
 refine kTS [7] [6,5,4] 0 [(6,.v (.slice (some ⟨g13,0,none⟩) 1 1)),(5,.v (.string ((takenIn c.r n).2))),(4,.p 1 0)] ?_
 refine kZ ?_
 exact ⟨(g13),kF 4 0 [4,5,6]⟩
 intro g11
 refine kR ?_
 have hmod : readConn c n = (({ c with r := (takenIn c.r n).1 }),((takenIn c.r n).2),([⟨c.t.my,c.t.port,nextOf c.s,(takenIn c.r n).1.next,16,windowOf ((takenIn c.r n).1),⟨0,(-1),false,false,0,0⟩,(⟨#[]⟩ : ByteArray)⟩] : List Seg)) := by first | rfl | (simp [readConn,ackOf, *]; done) | grind [readConn,ackOf]
 exact ⟨[.agg (conL { c with r := (takenIn c.r n).1 } (.slice v4a ((takenIn c.r n).1.held.length) v4c)).toArray,.string ((takenIn c.r n).2),.slice (some ⟨g11,0,none⟩) 1 1],by kernel_rfl,fun w' hb hf ha => by rw [hmod]; exact xo2 ((v4a,v4c),(((some ⟨g11,0,none⟩) : Option Addr),1)) rfl rfl (pR (hf _ m1) hB) (pR (hf _ m0) hB) (Apart.sub2 ha (i := 1) (j := 0) rfl rfl (by decide) rfl (fun b h => rowF_blk h) (fun b h => rowF_blk h)) hb⟩
 refine kK ?_
 refine kQ ?_
 refine kEF [4,5,6] ⟨[(4,.p 1 0),(5,.v (.string ((takenIn c.r n).2))),(6,.v (.slice (some ⟨g2,0,none⟩) 0 0))],[⟨34,conL c (.slice Acrh c.r.held.length Ccrh)⟩,⟨34,conL { c with r := (takenIn c.r n).1 } (.slice v4a ((takenIn c.r n).1.held.length) v4c)⟩,⟨34,conL { c with r := (takenIn c.r n).1 } (.slice v4a ((takenIn c.r n).1.held.length) v4c)⟩,⟨30,rcvL (takenIn c.r n).1 (.slice v4a ((takenIn c.r n).1.held.length) v4c)⟩],[],[rowF w.heap.size 108 2 (.slice v4a ((takenIn c.r n).1.held.length) v4c) ((takenIn c.r n).1.held.map pceCells),rowF w.heap.size 36 13 (.slice (some ⟨g2,0,none⟩) 0 0) (([] : List Seg).map segCells),ownF w.heap.size (.slice v1a c.r.held.length v1c) 2 (c.r.held.map pceCells),slF (.slice Acrh c.r.held.length Ccrh) 2 (c.r.held.map pceCells)]⟩ ?_
 refine kR ?_
 have hmod : readConn c n = (({ c with r := (takenIn c.r n).1 }),((takenIn c.r n).2),([] : List Seg)) := by first | rfl | (simp [readConn,ackOf, *]; done) | grind [readConn,ackOf]
 exact ⟨[.agg (conL { c with r := (takenIn c.r n).1 } (.slice v4a ((takenIn c.r n).1.held.length) v4c)).toArray,.string ((takenIn c.r n).2),.slice (some ⟨g2,0,none⟩) 0 0],by kernel_rfl,fun w' hb hf ha => by rw [hmod]; exact xo2 ((v4a,v4c),(((some ⟨g2,0,none⟩) : Option Addr),0)) rfl rfl (pR (hf _ m0) hB) (pR (hf _ m1) hB) (Apart.sub2 ha (i := 0) (j := 1) rfl rfl (by decide) rfl (fun b h => rowF_blk h) (fun b h => rowF_blk h)) hb⟩
theorem ysNextChunk_c (s : Snd) (window : Int) (mss : Int) (w : World) (hwi : -9223372036854775808 ≤ window ∧ window ≤ 9223372036854775807) : Calls Tryz.prog 91 #[.agg (sndL s).toArray, .int .i64 window, .int .i64 mss] w fun e w' => e = .returned (.tuple #[.agg (chkL (nextChunk s window mss).1).toArray, .bool ((nextChunk s window mss).2)]) ∧ Below w.heap.size w w' := by
 refine x_calls (args := [.agg (sndL s).toArray,.int .i64 window,.int .i64 mss]) (fn := Tryz.f91) [] Tryz.func91 rfl Tryz.ntmps91 rfl (by simp) ?_
 refine kQ ?_
 refine kEF [1,2,3,6] ⟨[(1,.v (.int .i64 window)),(2,.v (.int .i64 mss)),(3,.p 0 0),(6,.p 1 0)],[⟨27,sndL s⟩,⟨89,chkL (⟨0,(⟨#[]⟩ : ByteArray),false⟩ : Chk)⟩],[],[]⟩ ?_
 refine kS ?_
 refine kQ ?_
 refine kCD 1 [1,2,3,6,11] [(11,.v (.agg (sndL s).toArray))] 75 [.agg (sndL s).toArray] (some 12) rfl (xc_b fun ww hf => sSenderOk_c s.una s.data s.sent s.fin s.finSent s.done ww ) ?_
 intro _
 refine kED [1,2,3,6,13] [(13,.v (.bool (!(senderOk s))))] ?_
 refine kC (!(senderOk s)) (fun h1 => ?_) (fun h1 => ?_)
 have hsn := not_t h1
 refine kQ ?_
 refine kOS 0 [6] [(6,.p 1 0)] (.agg (chkL (⟨0,(⟨#[]⟩ : ByteArray),false⟩ : Chk)).toArray) rfl (fun _ _ _ ww hr => act_build [] hr.1 rfl (by kernel_rfl) (by kernel_rfl) ww) ?_
 refine kED [6,7] [(7,.v (.bool false))] ?_
 refine kR ?_
 have hmod : nextChunk s window mss = ((⟨0,(⟨#[]⟩ : ByteArray),false⟩),false) := by first | rfl | (simp [nextChunk,zeroChk,chunkFin, *]; done) | (simp [nextChunk,zeroChk,chunkFin, *]; omega) | grind [nextChunk,zeroChk,chunkFin]
 exact ⟨[.agg (chkL (⟨0,(⟨#[]⟩ : ByteArray),false⟩ : Chk)).toArray,.bool false],by kernel_rfl,fun w' hb hf => by rw [hmod]; exact ⟨rfl,hb⟩⟩
 have h1b := senderOk_bd (s := s) (by simpa using h1)
 obtain ⟨h1b0,h1b1,h1b2,h1b3,h1b4,h1b5,h1b6,h1b7,h1b8,h1b9,h1b10⟩ := h1b
 have hsn := not_f h1
 obtain ⟨c0,c1,c2,c3,c4⟩ := chunkN_bd (window := window) (mss := mss) hsn
 refine kK ?_
 refine kS ?_
 refine xe_region [] (by kernel_rfl) (fun ρ σ => ?_)
 refine kTS [0,3] [18,15,2,3,6] 6 [(18,.v (.agg (sndL s).toArray)),(15,.v (.int .i64 window)),(2,.v (.int .i64 mss)),(3,.p 0 0),(6,.p 1 0)] ?_
 refine kA [1] ?_
 refine kSC 1 116 [.int .i64 window,.int .i64 1000000] (some 16) rfl (xc_s fun ww hf => l1Min_c window 1000000 ww ) ?_
 intro _
 refine kA [2] ?_
 refine kSC 2 97 [.int .i64 0,.int .i64 (min window 1000000)] (some 17) rfl (xc_s fun ww hf => l1Max_c 0 (min window 1000000) ww ) ?_
 intro _
 refine kA [4] ?_
 refine kSC 4 61 [.agg (sndL s).toArray] (some 19) rfl (xc_b fun ww hf => sFlown_c s.una s.data s.sent s.fin s.finSent s.done ww ) ?_
 intro _
 refine kTS [5] [20,2,3,6] 2 [(20,.v (.int .i64 (IntKind.i64.wrap ((max 0 (min window 1000000)) - (flown s))))),(2,.v (.int .i64 mss)),(3,.p 0 0),(6,.p 1 0)] ?_
 refine xe_eqS (t := [(20,.v (.int .i64 (IntKind.i64.wrap ((max 0 (min window 1000000)) - (flown s))))),(2,.v (.int .i64 mss)),(3,.p 0 0),(6,.p 1 0)]) (t' := [(20,.v (.int .i64 ((max 0 (min window 1000000)) - (flown s)))),(2,.v (.int .i64 mss)),(3,.p 0 0),(6,.p 1 0)]) (by rw [show (IntKind.i64.wrap ((max 0 (min window 1000000)) - (flown s))) = ((max 0 (min window 1000000)) - (flown s)) from wrap_id (by omega) (by omega)]) ?_
 refine kA [6] ?_
 refine kSC 6 97 [.int .i64 0,.int .i64 ((max 0 (min window 1000000)) - (flown s))] (some 21) rfl (xc_s fun ww hf => l1Max_c 0 ((max 0 (min window 1000000)) - (flown s)) ww ) ?_
 intro _
 refine xe_eqS (t := [(21,.v (.int .i64 (max 0 ((max 0 (min window 1000000)) - (flown s))))),(20,.v (.int .i64 ((max 0 (min window 1000000)) - (flown s)))),(2,.v (.int .i64 mss)),(3,.p 0 0),(6,.p 1 0)]) (t' := [(21,.v (.int .i64 (wnd s window))),(20,.v (.int .i64 ((max 0 (min window 1000000)) - (flown s)))),(2,.v (.int .i64 mss)),(3,.p 0 0),(6,.p 1 0)]) (by rw [show (max 0 ((max 0 (min window 1000000)) - (flown s))) = (wnd s window) from wnd_s]) ?_
 refine kTS [7] [8,2,3,6] 0 [(8,.v (.int .i64 (wnd s window))),(2,.v (.int .i64 mss)),(3,.p 0 0),(6,.p 1 0)] ?_
 refine kZ ?_
 refine kS ?_
 refine xe_region [] (by kernel_rfl) (fun ρ σ => ?_)
 refine kTS [0,1,3,4,5,6,7,8] [30,23,22,8,3,6] 4 [(30,.v (.int .i64 (IntKind.i64.wrap ((s.data.size : Int) - s.sent)))),(23,.v (.int .i64 (wnd s window))),(22,.v (.int .i64 mss)),(8,.v (.int .i64 (wnd s window))),(3,.p 0 0),(6,.p 1 0)] ?_
 refine xe_eqS (t := [(30,.v (.int .i64 (IntKind.i64.wrap ((s.data.size : Int) - s.sent)))),(23,.v (.int .i64 (wnd s window))),(22,.v (.int .i64 mss)),(8,.v (.int .i64 (wnd s window))),(3,.p 0 0),(6,.p 1 0)]) (t' := [(30,.v (.int .i64 ((s.data.size : Int) - s.sent))),(23,.v (.int .i64 (wnd s window))),(22,.v (.int .i64 mss)),(8,.v (.int .i64 (wnd s window))),(3,.p 0 0),(6,.p 1 0)]) (by rw [show (IntKind.i64.wrap ((s.data.size : Int) - s.sent)) = ((s.data.size : Int) - s.sent) from wrap_id (by omega) (by omega)]) ?_
 refine kA [2] ?_
 refine kSC 2 116 [.int .i64 mss,.int .i64 (wnd s window)] (some 24) rfl (xc_s fun ww hf => l1Min_c mss (wnd s window) ww ) ?_
 intro _
 refine kA [9] ?_
 refine kSC 9 116 [.int .i64 (min mss (wnd s window)),.int .i64 ((s.data.size : Int) - s.sent)] (some 31) rfl (xc_s fun ww hf => l1Min_c (min mss (wnd s window)) ((s.data.size : Int) - s.sent) ww ) ?_
 intro _
 refine kA [10] ?_
 refine kSC 10 97 [.int .i64 0,.int .i64 (min (min mss (wnd s window)) ((s.data.size : Int) - s.sent))] (some 32) rfl (xc_s fun ww hf => l1Max_c 0 (min (min mss (wnd s window)) ((s.data.size : Int) - s.sent)) ww ) ?_
 intro _
 refine xe_eqS (t := [(32,.v (.int .i64 (max 0 (min (min mss (wnd s window)) ((s.data.size : Int) - s.sent))))),(31,.v (.int .i64 (min (min mss (wnd s window)) ((s.data.size : Int) - s.sent)))),(24,.v (.int .i64 (min mss (wnd s window)))),(30,.v (.int .i64 ((s.data.size : Int) - s.sent))),(23,.v (.int .i64 (wnd s window))),(22,.v (.int .i64 mss)),(8,.v (.int .i64 (wnd s window))),(3,.p 0 0),(6,.p 1 0)]) (t' := [(32,.v (.int .i64 (chunkN s window mss))),(31,.v (.int .i64 (min (min mss (wnd s window)) ((s.data.size : Int) - s.sent)))),(24,.v (.int .i64 (min mss (wnd s window)))),(30,.v (.int .i64 ((s.data.size : Int) - s.sent))),(23,.v (.int .i64 (wnd s window))),(22,.v (.int .i64 mss)),(8,.v (.int .i64 (wnd s window))),(3,.p 0 0),(6,.p 1 0)]) (by rw [show (max 0 (min (min mss (wnd s window)) ((s.data.size : Int) - s.sent))) = (chunkN s window mss) from rfl]) ?_
 refine kTS [11] [9,8,3,6] 0 [(9,.v (.int .i64 (chunkN s window mss))),(8,.v (.int .i64 (wnd s window))),(3,.p 0 0),(6,.p 1 0)] ?_
 refine kZ ?_
 refine kS ?_
 refine xw_join ⟨[(3,.p 0 0),(6,.p 1 0),(8,.v (.int .i64 (wnd s window))),(9,.v (.int .i64 (chunkN s window mss))),(10,.p 2 0)],[⟨27,sndL s⟩,⟨89,chkL (⟨0,(⟨#[]⟩ : ByteArray),false⟩ : Chk)⟩,⟨89,chkL (⟨nextOf s,s.data.extract (s.sent).toNat (s.sent + (chunkN s window mss)).toNat,false⟩ : Chk)⟩],[],[]⟩ ?_ ?_
 refine xe_region [] (by kernel_rfl) (fun ρ σ => ?_)
 refine kTS [0,2,3,4,5,6,7,8,9] [42,38,36,33,9,8,3,6] 5 [(42,.v (.int .i64 (IntKind.i64.wrap (s.sent + (chunkN s window mss))))),(38,.v (.int .i64 s.sent)),(36,.v (.string s.data)),(33,.v (.agg (sndL s).toArray)),(9,.v (.int .i64 (chunkN s window mss))),(8,.v (.int .i64 (wnd s window))),(3,.p 0 0),(6,.p 1 0)] ?_
 refine xe_eqS (t := [(42,.v (.int .i64 (IntKind.i64.wrap (s.sent + (chunkN s window mss))))),(38,.v (.int .i64 s.sent)),(36,.v (.string s.data)),(33,.v (.agg (sndL s).toArray)),(9,.v (.int .i64 (chunkN s window mss))),(8,.v (.int .i64 (wnd s window))),(3,.p 0 0),(6,.p 1 0)]) (t' := [(42,.v (.int .i64 (s.sent + (chunkN s window mss)))),(38,.v (.int .i64 s.sent)),(36,.v (.string s.data)),(33,.v (.agg (sndL s).toArray)),(9,.v (.int .i64 (chunkN s window mss))),(8,.v (.int .i64 (wnd s window))),(3,.p 0 0),(6,.p 1 0)]) (by rw [show (IntKind.i64.wrap (s.sent + (chunkN s window mss))) = (s.sent + (chunkN s window mss)) from wrap_id (by omega) (by omega)]) ?_
 refine kX 10 (.string (s.data.extract (s.sent).toNat (s.sent + (chunkN s window mss)).toNat)) rfl (fun _ _ ww hA => act_slS (s.sent) (s.sent + (chunkN s window mss)) hA rfl (by kernel_rfl) rfl rfl rfl (by omega) (by omega) (by omega) ww) ?_
 refine kA [1,12] ⟨?_,?_⟩
 refine kSC 1 17 [.agg (sndL s).toArray] (some 34) rfl (xc_b fun ww hf => sNextOf_c s.una s.data s.sent s.fin s.finSent s.done ww ) ?_
 intro _
 refine kX 11 (.agg (chkL (⟨nextOf s,s.data.extract (s.sent).toNat (s.sent + (chunkN s window mss)).toNat,false⟩ : Chk)).toArray) rfl (fun _ _ ww hA => act_build [(0,.int .i64 (nextOf s)),(1,.string (s.data.extract (s.sent).toNat (s.sent + (chunkN s window mss)).toNat))] hA rfl (by kernel_rfl) (by kernel_rfl) ww) ?_
 refine kA [12] ?_
 refine xs_box 12 ⟨89,chkL (⟨0,(⟨#[]⟩ : ByteArray),false⟩ : Chk)⟩ _ rfl (by kernel_rfl) (by kernel_rfl) (by kernel_rfl) (by kernel_rfl) rfl ?_
 refine kA [13] ?_
 refine kSS 13 2 0 (chkL (⟨nextOf s,s.data.extract (s.sent).toNat (s.sent + (chunkN s window mss)).toNat,false⟩ : Chk)) rfl ?_
 refine kZ ?_
 exact kF 3 0 [3,6,8,9,10]
 refine xs_box 12 ⟨89,chkL (⟨0,(⟨#[]⟩ : ByteArray),false⟩ : Chk)⟩ _ rfl (by kernel_rfl) (by kernel_rfl) (by kernel_rfl) (by kernel_rfl) rfl ?_
 refine kA [1] ?_
 refine kSC 1 17 [.agg (sndL s).toArray] (some 34) rfl (xc_b fun ww hf => sNextOf_c s.una s.data s.sent s.fin s.finSent s.done ww ) ?_
 intro _
 refine kX 11 (.agg (chkL (⟨nextOf s,s.data.extract (s.sent).toNat (s.sent + (chunkN s window mss)).toNat,false⟩ : Chk)).toArray) rfl (fun _ _ ww hA => act_build [(0,.int .i64 (nextOf s)),(1,.string (s.data.extract (s.sent).toNat (s.sent + (chunkN s window mss)).toNat))] hA rfl (by kernel_rfl) (by kernel_rfl) ww) ?_
 refine kA [13] ?_
 refine kSS 13 2 0 (chkL (⟨nextOf s,s.data.extract (s.sent).toNat (s.sent + (chunkN s window mss)).toNat,false⟩ : Chk)) rfl ?_
 refine kZ ?_
 exact kF 3 0 [3,6,8,9,10]
 refine kQ ?_
 refine kRD 3 [3,6,8,9,10,47] [(47,.v (.bool s.fin))] ?_
 refine kP 47 (s.fin) (fun h2 => ?_) (fun h2 => ?_)
 refine kRD 5 [3,6,8,9,10,52] [(52,.v (.bool (!s.finSent)))] ?_
 refine kP 52 (!s.finSent) (fun h3 => ?_) (fun h3 => ?_)
 have h3n := not_t h3
 refine kRD 5 [3,6,8,9,10,57] [(57,.v (.bool (!s.done)))] ?_
 refine kP 57 (!s.done) (fun h4 => ?_) (fun h4 => ?_)
 have h4n := not_t h4
 refine kRS 10 [6,8,9,10,67] [(6,.p 1 0),(8,.v (.int .i64 (wnd s window))),(9,.v (.int .i64 (chunkN s window mss))),(10,.p 2 0),(67,.v (.bool ((IntKind.i64.wrap (s.sent + (chunkN s window mss))) == (s.data.size : Int))))] ?_
 refine xl_eqS (t' := [(6,.p 1 0),(8,.v (.int .i64 (wnd s window))),(9,.v (.int .i64 (chunkN s window mss))),(10,.p 2 0),(67,.v (.bool ((s.sent + (chunkN s window mss)) == (s.data.size : Int))))]) (by rw [show (IntKind.i64.wrap (s.sent + (chunkN s window mss))) = (s.sent + (chunkN s window mss)) from wrap_id (by omega) (by omega)]) ?_
 refine kP 67 ((s.sent + (chunkN s window mss)) == (s.data.size : Int)) (fun h5 => ?_) (fun h5 => ?_)
 have h5p := eqT h5
 refine kEU [6,9,10] [] 2 ⟨89,chkL (⟨nextOf s,s.data.extract (s.sent).toNat (s.sent + (chunkN s window mss)).toNat,decide ((wnd s window) > (chunkN s window mss))⟩ : Chk)⟩ ?_
 refine kS ?_
 refine kQ ?_
 refine kRD 3 [6,10,75] [(75,.v (.bool ((chunkN s window mss) == 0)))] ?_
 refine kP 75 ((chunkN s window mss) == 0) (fun h6 => ?_) (fun h6 => ?_)
 have h6p := eqT h6
 refine kED [6,10,79] [(79,.v (.bool (!(decide ((wnd s window) > (chunkN s window mss))))))] ?_
 refine kC (!(decide ((wnd s window) > (chunkN s window mss)))) (fun h7 => ?_) (fun h7 => ?_)
 have h7n := not_t h7
 refine kQ ?_
 refine kOS 0 [6] [(6,.p 1 0)] (.agg (chkL (⟨0,(⟨#[]⟩ : ByteArray),false⟩ : Chk)).toArray) rfl (fun _ _ _ ww hr => act_build [] hr.1 rfl (by kernel_rfl) (by kernel_rfl) ww) ?_
 refine kED [6,7] [(7,.v (.bool false))] ?_
 refine kR ?_
 have hmod : nextChunk s window mss = ((⟨0,(⟨#[]⟩ : ByteArray),false⟩),false) := by first | rfl | (simp [nextChunk,zeroChk,chunkFin, *]; done) | (simp [nextChunk,zeroChk,chunkFin, *]; omega) | grind [nextChunk,zeroChk,chunkFin]
 exact ⟨[.agg (chkL (⟨0,(⟨#[]⟩ : ByteArray),false⟩ : Chk)).toArray,.bool false],by kernel_rfl,fun w' hb hf => by rw [hmod]; exact ⟨rfl,hb⟩⟩
 have h7n := not_f h7
 refine kK ?_
 refine kQ ?_
 refine kEU [6,7] [(7,.v (.bool true))] 1 ⟨89,chkL (⟨nextOf s,s.data.extract (s.sent).toNat (s.sent + (chunkN s window mss)).toNat,decide ((wnd s window) > (chunkN s window mss))⟩ : Chk)⟩ ?_
 refine kR ?_
 have hmod : nextChunk s window mss = ((⟨nextOf s,s.data.extract (s.sent).toNat (s.sent + (chunkN s window mss)).toNat,decide ((wnd s window) > (chunkN s window mss))⟩),true) := by first | rfl | (simp [nextChunk,zeroChk,chunkFin, *]; done) | (simp [nextChunk,zeroChk,chunkFin, *]; omega) | grind [nextChunk,zeroChk,chunkFin]
 exact ⟨[.agg (chkL (⟨nextOf s,s.data.extract (s.sent).toNat (s.sent + (chunkN s window mss)).toNat,decide ((wnd s window) > (chunkN s window mss))⟩ : Chk)).toArray,.bool true],by kernel_rfl,fun w' hb hf => by rw [hmod]; exact ⟨rfl,hb⟩⟩
 have h6p := eqF h6
 refine kED [6,10,79] [(79,.v (.bool false))] ?_
 refine kN ?_
 refine kK ?_
 refine kQ ?_
 refine kEU [6,7] [(7,.v (.bool true))] 1 ⟨89,chkL (⟨nextOf s,s.data.extract (s.sent).toNat (s.sent + (chunkN s window mss)).toNat,decide ((wnd s window) > (chunkN s window mss))⟩ : Chk)⟩ ?_
 refine kR ?_
 have hmod : nextChunk s window mss = ((⟨nextOf s,s.data.extract (s.sent).toNat (s.sent + (chunkN s window mss)).toNat,decide ((wnd s window) > (chunkN s window mss))⟩),true) := by first | rfl | (simp [nextChunk,zeroChk,chunkFin, *]; done) | (simp [nextChunk,zeroChk,chunkFin, *]; omega) | grind [nextChunk,zeroChk,chunkFin]
 exact ⟨[.agg (chkL (⟨nextOf s,s.data.extract (s.sent).toNat (s.sent + (chunkN s window mss)).toNat,decide ((wnd s window) > (chunkN s window mss))⟩ : Chk)).toArray,.bool true],by kernel_rfl,fun w' hb hf => by rw [hmod]; exact ⟨rfl,hb⟩⟩
 have h5p := eqF h5
 refine kED [6,9,10] [] ?_
 refine kS ?_
 refine kQ ?_
 refine kRD 3 [6,10,75] [(75,.v (.bool ((chunkN s window mss) == 0)))] ?_
 refine kP 75 ((chunkN s window mss) == 0) (fun h8 => ?_) (fun h8 => ?_)
 have h8p := eqT h8
 refine kED [6,10,79] [(79,.v (.bool true))] ?_
 refine kT ?_
 refine kQ ?_
 refine kOS 0 [6] [(6,.p 1 0)] (.agg (chkL (⟨0,(⟨#[]⟩ : ByteArray),false⟩ : Chk)).toArray) rfl (fun _ _ _ ww hr => act_build [] hr.1 rfl (by kernel_rfl) (by kernel_rfl) ww) ?_
 refine kED [6,7] [(7,.v (.bool false))] ?_
 refine kR ?_
 have hmod : nextChunk s window mss = ((⟨0,(⟨#[]⟩ : ByteArray),false⟩),false) := by first | rfl | (simp [nextChunk,zeroChk,chunkFin, *]; done) | (simp [nextChunk,zeroChk,chunkFin, *]; omega) | grind [nextChunk,zeroChk,chunkFin]
 exact ⟨[.agg (chkL (⟨0,(⟨#[]⟩ : ByteArray),false⟩ : Chk)).toArray,.bool false],by kernel_rfl,fun w' hb hf => by rw [hmod]; exact ⟨rfl,hb⟩⟩
 have h8p := eqF h8
 refine kED [6,10,79] [(79,.v (.bool false))] ?_
 refine kN ?_
 refine kK ?_
 refine kQ ?_
 refine kEU [6,7] [(7,.v (.bool true))] 1 ⟨89,chkL (⟨nextOf s,s.data.extract (s.sent).toNat (s.sent + (chunkN s window mss)).toNat,false⟩ : Chk)⟩ ?_
 refine kR ?_
 have hmod : nextChunk s window mss = ((⟨nextOf s,s.data.extract (s.sent).toNat (s.sent + (chunkN s window mss)).toNat,false⟩),true) := by first | rfl | (simp [nextChunk,zeroChk,chunkFin, *]; done) | (simp [nextChunk,zeroChk,chunkFin, *]; omega) | grind [nextChunk,zeroChk,chunkFin]
 exact ⟨[.agg (chkL (⟨nextOf s,s.data.extract (s.sent).toNat (s.sent + (chunkN s window mss)).toNat,false⟩ : Chk)).toArray,.bool true],by kernel_rfl,fun w' hb hf => by rw [hmod]; exact ⟨rfl,hb⟩⟩
 have h4n := not_f h4
 refine kED [6,9,10] [] ?_
 refine kS ?_
 refine kQ ?_
 refine kRD 3 [6,10,75] [(75,.v (.bool ((chunkN s window mss) == 0)))] ?_
 refine kP 75 ((chunkN s window mss) == 0) (fun h9 => ?_) (fun h9 => ?_)
 have h9p := eqT h9
 refine kED [6,10,79] [(79,.v (.bool true))] ?_
 refine kT ?_
 refine kQ ?_
 refine kOS 0 [6] [(6,.p 1 0)] (.agg (chkL (⟨0,(⟨#[]⟩ : ByteArray),false⟩ : Chk)).toArray) rfl (fun _ _ _ ww hr => act_build [] hr.1 rfl (by kernel_rfl) (by kernel_rfl) ww) ?_
 refine kED [6,7] [(7,.v (.bool false))] ?_
 refine kR ?_
 have hmod : nextChunk s window mss = ((⟨0,(⟨#[]⟩ : ByteArray),false⟩),false) := by first | rfl | (simp [nextChunk,zeroChk,chunkFin, *]; done) | (simp [nextChunk,zeroChk,chunkFin, *]; omega) | grind [nextChunk,zeroChk,chunkFin]
 exact ⟨[.agg (chkL (⟨0,(⟨#[]⟩ : ByteArray),false⟩ : Chk)).toArray,.bool false],by kernel_rfl,fun w' hb hf => by rw [hmod]; exact ⟨rfl,hb⟩⟩
 have h9p := eqF h9
 refine kED [6,10,79] [(79,.v (.bool false))] ?_
 refine kN ?_
 refine kK ?_
 refine kQ ?_
 refine kEU [6,7] [(7,.v (.bool true))] 1 ⟨89,chkL (⟨nextOf s,s.data.extract (s.sent).toNat (s.sent + (chunkN s window mss)).toNat,false⟩ : Chk)⟩ ?_
 refine kR ?_
 have hmod : nextChunk s window mss = ((⟨nextOf s,s.data.extract (s.sent).toNat (s.sent + (chunkN s window mss)).toNat,false⟩),true) := by first | rfl | (simp [nextChunk,zeroChk,chunkFin, *]; done) | (simp [nextChunk,zeroChk,chunkFin, *]; omega) | grind [nextChunk,zeroChk,chunkFin]
 exact ⟨[.agg (chkL (⟨nextOf s,s.data.extract (s.sent).toNat (s.sent + (chunkN s window mss)).toNat,false⟩ : Chk)).toArray,.bool true],by kernel_rfl,fun w' hb hf => by rw [hmod]; exact ⟨rfl,hb⟩⟩
 have h3n := not_f h3
 refine kED [6,9,10] [] ?_
 refine kS ?_
 refine kQ ?_
 refine kRD 3 [6,10,75] [(75,.v (.bool ((chunkN s window mss) == 0)))] ?_
 refine kP 75 ((chunkN s window mss) == 0) (fun h10 => ?_) (fun h10 => ?_)
 have h10p := eqT h10
 refine kED [6,10,79] [(79,.v (.bool true))] ?_
 refine kT ?_
 refine kQ ?_
 refine kOS 0 [6] [(6,.p 1 0)] (.agg (chkL (⟨0,(⟨#[]⟩ : ByteArray),false⟩ : Chk)).toArray) rfl (fun _ _ _ ww hr => act_build [] hr.1 rfl (by kernel_rfl) (by kernel_rfl) ww) ?_
 refine kED [6,7] [(7,.v (.bool false))] ?_
 refine kR ?_
 have hmod : nextChunk s window mss = ((⟨0,(⟨#[]⟩ : ByteArray),false⟩),false) := by first | rfl | (simp [nextChunk,zeroChk,chunkFin, *]; done) | (simp [nextChunk,zeroChk,chunkFin, *]; omega) | grind [nextChunk,zeroChk,chunkFin]
 exact ⟨[.agg (chkL (⟨0,(⟨#[]⟩ : ByteArray),false⟩ : Chk)).toArray,.bool false],by kernel_rfl,fun w' hb hf => by rw [hmod]; exact ⟨rfl,hb⟩⟩
 have h10p := eqF h10
 refine kED [6,10,79] [(79,.v (.bool false))] ?_
 refine kN ?_
 refine kK ?_
 refine kQ ?_
 refine kEU [6,7] [(7,.v (.bool true))] 1 ⟨89,chkL (⟨nextOf s,s.data.extract (s.sent).toNat (s.sent + (chunkN s window mss)).toNat,false⟩ : Chk)⟩ ?_
 refine kR ?_
 have hmod : nextChunk s window mss = ((⟨nextOf s,s.data.extract (s.sent).toNat (s.sent + (chunkN s window mss)).toNat,false⟩),true) := by first | rfl | (simp [nextChunk,zeroChk,chunkFin, *]; done) | (simp [nextChunk,zeroChk,chunkFin, *]; omega) | grind [nextChunk,zeroChk,chunkFin]
 exact ⟨[.agg (chkL (⟨nextOf s,s.data.extract (s.sent).toNat (s.sent + (chunkN s window mss)).toNat,false⟩ : Chk)).toArray,.bool true],by kernel_rfl,fun w' hb hf => by rw [hmod]; exact ⟨rfl,hb⟩⟩
 refine kED [6,9,10] [] ?_
 refine kS ?_
 refine kQ ?_
 refine kRD 3 [6,10,75] [(75,.v (.bool ((chunkN s window mss) == 0)))] ?_
 refine kP 75 ((chunkN s window mss) == 0) (fun h11 => ?_) (fun h11 => ?_)
 have h11p := eqT h11
 refine kED [6,10,79] [(79,.v (.bool true))] ?_
 refine kT ?_
 refine kQ ?_
 refine kOS 0 [6] [(6,.p 1 0)] (.agg (chkL (⟨0,(⟨#[]⟩ : ByteArray),false⟩ : Chk)).toArray) rfl (fun _ _ _ ww hr => act_build [] hr.1 rfl (by kernel_rfl) (by kernel_rfl) ww) ?_
 refine kED [6,7] [(7,.v (.bool false))] ?_
 refine kR ?_
 have hmod : nextChunk s window mss = ((⟨0,(⟨#[]⟩ : ByteArray),false⟩),false) := by first | rfl | (simp [nextChunk,zeroChk,chunkFin, *]; done) | (simp [nextChunk,zeroChk,chunkFin, *]; omega) | grind [nextChunk,zeroChk,chunkFin]
 exact ⟨[.agg (chkL (⟨0,(⟨#[]⟩ : ByteArray),false⟩ : Chk)).toArray,.bool false],by kernel_rfl,fun w' hb hf => by rw [hmod]; exact ⟨rfl,hb⟩⟩
 have h11p := eqF h11
 refine kED [6,10,79] [(79,.v (.bool false))] ?_
 refine kN ?_
 refine kK ?_
 refine kQ ?_
 refine kEU [6,7] [(7,.v (.bool true))] 1 ⟨89,chkL (⟨nextOf s,s.data.extract (s.sent).toNat (s.sent + (chunkN s window mss)).toNat,false⟩ : Chk)⟩ ?_
 refine kR ?_
 have hmod : nextChunk s window mss = ((⟨nextOf s,s.data.extract (s.sent).toNat (s.sent + (chunkN s window mss)).toNat,false⟩),true) := by first | rfl | (simp [nextChunk,zeroChk,chunkFin, *]; done) | (simp [nextChunk,zeroChk,chunkFin, *]; omega) | grind [nextChunk,zeroChk,chunkFin]
 exact ⟨[.agg (chkL (⟨nextOf s,s.data.extract (s.sent).toNat (s.sent + (chunkN s window mss)).toNat,false⟩ : Chk)).toArray,.bool true],by kernel_rfl,fun w' hb hf => by rw [hmod]; exact ⟨rfl,hb⟩⟩
theorem ysSentOff_c (s : Snd) (c : Chk) (w : World)  : Calls Tryz.prog 93 #[.agg (sndL s).toArray, .agg (chkL c).toArray] w fun e w' => e = .returned (.agg (sndL (sentOff s c)).toArray) ∧ Below w.heap.size w w' := by
 have hsf := sentS_fin s c
 refine x_calls (args := [.agg (sndL s).toArray,.agg (chkL c).toArray]) (fn := Tryz.f93) [] Tryz.func93 rfl Tryz.ntmps93 rfl (by simp) ?_
 refine kQ ?_
 refine kEF [2,3,4] ⟨[(2,.p 0 0),(3,.p 1 0),(4,.p 2 0)],[⟨27,sndL s⟩,⟨89,chkL c⟩,⟨27,sndZ⟩],[],[]⟩ ?_
 refine kQ ?_
 refine kEF [2,3,4,5] ⟨[(2,.p 0 0),(3,.p 1 0),(4,.p 2 0),(5,.p 3 0)],[⟨27,sndL s⟩,⟨89,chkL c⟩,⟨27,sndZ⟩,⟨27,sndL s⟩],[],[]⟩ ?_
 refine kQ ?_
 refine kEF [2,3,4,5] ⟨[(2,.p 0 0),(3,.p 1 0),(4,.p 2 0),(5,.p 3 0)],[⟨27,sndL s⟩,⟨89,chkL c⟩,⟨27,sndZ⟩,⟨27,sndL { s with sent := IntKind.i64.wrap (s.sent + (c.text.size : Int)) }⟩],[],[]⟩ ?_
 refine kS ?_
 refine xw_join ⟨[(2,.p 0 0),(3,.p 1 0),(4,.p 2 0),(5,.p 3 0)],[⟨27,sndL s⟩,⟨89,chkL c⟩,⟨27,sndZ⟩,⟨27,sndL { s with sent := IntKind.i64.wrap (s.sent + (c.text.size : Int)),finSent := s.finSent || c.fin }⟩],[],[]⟩ ?_ ?_
 refine kG ?_
 refine kRS 3 [2,3,4,5,16] [(2,.p 0 0),(3,.p 1 0),(4,.p 2 0),(5,.p 3 0),(16,.v (.bool s.finSent))] ?_
 refine kP 16 (s.finSent) (fun h1 => ?_) (fun h1 => ?_)
 refine kEF [2,3,4,5] ⟨[(2,.p 0 0),(3,.p 1 0),(4,.p 2 0),(5,.p 3 0)],[⟨27,sndL s⟩,⟨89,chkL c⟩,⟨27,sndZ⟩,⟨27,sndL { s with sent := IntKind.i64.wrap (s.sent + (c.text.size : Int)),finSent := true }⟩],[],[]⟩ ?_
 show Wk _ _
 try rw [h1]
 exact kF 4 0 [2,3,4,5]
 refine kEF [2,3,4,5] ⟨[(2,.p 0 0),(3,.p 1 0),(4,.p 2 0),(5,.p 3 0)],[⟨27,sndL s⟩,⟨89,chkL c⟩,⟨27,sndZ⟩,⟨27,sndL { s with sent := IntKind.i64.wrap (s.sent + (c.text.size : Int)),finSent := c.fin }⟩],[],[]⟩ ?_
 show Wk _ _
 try rw [h1]
 exact kF 4 0 [2,3,4,5]
 refine kS ?_
 refine kS ?_
 refine xw_join ⟨[(2,.p 0 0),(4,.p 2 0),(5,.p 3 0),(36,.v (.bool ((!(senderOk s)) || ((!(senderOk ({ s with sent := IntKind.i64.wrap (s.sent + (c.text.size : Int)),finSent := s.finSent || c.fin }))) || (c.fin && s.done)))))],[⟨27,sndL s⟩,⟨89,chkL c⟩,⟨27,sndZ⟩,⟨27,sndL { s with sent := IntKind.i64.wrap (s.sent + (c.text.size : Int)),finSent := s.finSent || c.fin }⟩],[],[]⟩ ?_ ?_
 refine kG ?_
 refine kCS 1 [2,3,4,5,21] [(2,.p 0 0),(3,.p 1 0),(4,.p 2 0),(5,.p 3 0),(21,.v (.agg (sndL s).toArray))] 75 [.agg (sndL s).toArray] (some 22) rfl (xc_b fun ww hf => sSenderOk_c s.una s.data s.sent s.fin s.finSent s.done ww ) ?_
 intro _
 refine kRS 2 [2,3,4,5,24] [(2,.p 0 0),(3,.p 1 0),(4,.p 2 0),(5,.p 3 0),(24,.v (.bool (!(senderOk s))))] ?_
 refine kP 24 (!(senderOk s)) (fun h2 => ?_) (fun h2 => ?_)
 have h2n := not_t h2
 refine kES [2,4,5,36] [(2,.p 0 0),(4,.p 2 0),(5,.p 3 0),(36,.v (.bool true))] ?_
 show Wk _ _
 try rw [h2]
 exact kF 4 0 [2,4,5,36]
 have h2n := not_f h2
 have h2nb := senderOk_bd (s := s) (by simpa using h2n)
 obtain ⟨h2nb0,h2nb1,h2nb2,h2nb3,h2nb4,h2nb5,h2nb6,h2nb7,h2nb8,h2nb9,h2nb10⟩ := h2nb
 refine kCS 1 [2,3,4,5,24,25] [(2,.p 0 0),(3,.p 1 0),(4,.p 2 0),(5,.p 3 0),(24,.v (.bool false)),(25,.v (.agg (sndL { s with sent := IntKind.i64.wrap (s.sent + (c.text.size : Int)),finSent := s.finSent || c.fin }).toArray))] 75 [.agg (sndL { s with sent := IntKind.i64.wrap (s.sent + (c.text.size : Int)),finSent := s.finSent || c.fin }).toArray] (some 26) rfl (xc_b fun ww hf => sSenderOk_c s.una s.data (IntKind.i64.wrap (s.sent + (c.text.size : Int))) s.fin (s.finSent || c.fin) s.done ww ) ?_
 intro _
 refine kRS 3 [2,3,4,5,29] [(2,.p 0 0),(3,.p 1 0),(4,.p 2 0),(5,.p 3 0),(29,.v (.bool (!(senderOk ({ s with sent := IntKind.i64.wrap (s.sent + (c.text.size : Int)),finSent := s.finSent || c.fin })))))] ?_
 refine kP 29 (!(senderOk ({ s with sent := IntKind.i64.wrap (s.sent + (c.text.size : Int)),finSent := s.finSent || c.fin }))) (fun h3 => ?_) (fun h3 => ?_)
 have h3n := not_t h3
 refine kES [2,4,5,36] [(2,.p 0 0),(4,.p 2 0),(5,.p 3 0),(36,.v (.bool true))] ?_
 show Wk _ _
 try rw [h2]
 try rw [h3]
 exact kF 4 0 [2,4,5,36]
 have h3n := not_f h3
 have h3nb := senderOk_bd (s := ({ s with sent := IntKind.i64.wrap (s.sent + (c.text.size : Int)),finSent := s.finSent || c.fin })) (by simpa using h3n)
 obtain ⟨h3nb0,h3nb1,h3nb2,h3nb3,h3nb4,h3nb5,h3nb6,h3nb7,h3nb8,h3nb9,h3nb10⟩ := h3nb
 refine kRS 3 [2,4,5,29,32] [(2,.p 0 0),(4,.p 2 0),(5,.p 3 0),(29,.v (.bool false)),(32,.v (.bool c.fin))] ?_
 refine kP 32 (c.fin) (fun h4 => ?_) (fun h4 => ?_)
 refine kES [2,4,5,36] [(2,.p 0 0),(4,.p 2 0),(5,.p 3 0),(36,.v (.bool s.done))] ?_
 show Wk _ _
 try rw [h2]
 try rw [h3]
 try rw [h4]
 exact kF 4 0 [2,4,5,36]
 refine kES [2,4,5,36] [(2,.p 0 0),(4,.p 2 0),(5,.p 3 0),(36,.v (.bool false))] ?_
 show Wk _ _
 try rw [h2]
 try rw [h3]
 try rw [h4]
 exact kF 4 0 [2,4,5,36]
 refine kC ((!(senderOk s)) || ((!(senderOk ({ s with sent := IntKind.i64.wrap (s.sent + (c.text.size : Int)),finSent := s.finSent || c.fin }))) || (c.fin && s.done))) (fun h5 => ?_) (fun h5 => ?_)
 refine kQ ?_
 refine kEF [4] ⟨[(4,.p 2 0)],[⟨27,sndL s⟩,⟨89,chkL c⟩,⟨27,sndL s⟩,⟨27,sndL { s with sent := IntKind.i64.wrap (s.sent + (c.text.size : Int)),finSent := s.finSent || c.fin }⟩],[],[]⟩ ?_
 refine kR ?_
 have hmod : sentOff s c = s := by first | rfl | (simp [sentOff,sentS, *]; done) | grind [sentOff,sentS]
 exact ⟨[.agg (sndL s).toArray],by kernel_rfl,fun w' hb hf => by rw [hmod]; exact ⟨rfl,hb⟩⟩
 have h5l := or_l h5
 have h5ln := not_f h5l
 have h5lnb := senderOk_bd (s := s) (by simpa using h5ln)
 obtain ⟨h5lnb0,h5lnb1,h5lnb2,h5lnb3,h5lnb4,h5lnb5,h5lnb6,h5lnb7,h5lnb8,h5lnb9,h5lnb10⟩ := h5lnb
 have h5r := or_r h5
 have h5rl := or_l h5r
 have h5rln := not_f h5rl
 have h5rlnb := senderOk_bd (s := ({ s with sent := IntKind.i64.wrap (s.sent + (c.text.size : Int)),finSent := s.finSent || c.fin })) (by simpa using h5rln)
 obtain ⟨h5rlnb0,h5rlnb1,h5rlnb2,h5rlnb3,h5rlnb4,h5rlnb5,h5rlnb6,h5rlnb7,h5rlnb8,h5rlnb9,h5rlnb10⟩ := h5rlnb
 have h5rr := or_r h5r
 refine kK ?_
 refine kQ ?_
 refine kEF [4] ⟨[(4,.p 2 0)],[⟨27,sndL s⟩,⟨89,chkL c⟩,⟨27,sndL { s with sent := IntKind.i64.wrap (s.sent + (c.text.size : Int)),finSent := s.finSent || c.fin }⟩,⟨27,sndL { s with sent := IntKind.i64.wrap (s.sent + (c.text.size : Int)),finSent := s.finSent || c.fin }⟩],[],[]⟩ ?_
 refine kR ?_
 have hmod : sentOff s c = ({ s with sent := IntKind.i64.wrap (s.sent + (c.text.size : Int)),finSent := s.finSent || c.fin }) := by first | rfl | (simp [sentOff,sentS, *]; done) | grind [sentOff,sentS]
 exact ⟨[.agg (sndL { s with sent := IntKind.i64.wrap (s.sent + (c.text.size : Int)),finSent := s.finSent || c.fin }).toArray],by kernel_rfl,fun w' hb hf => by rw [hmod]; exact ⟨rfl,hb⟩⟩
theorem ysQueued_c (s : Snd) (text : ByteArray) (w : World) (hts : text.size ≤ 4611686018427387904) : Calls Tryz.prog 87 #[.agg (sndL s).toArray, .string text] w fun e w' => e = .returned (.tuple #[.agg (sndL (queued s text).1).toArray, .int .i64 ((queued s text).2)]) ∧ Below w.heap.size w w' := by
 refine x_calls (args := [.agg (sndL s).toArray,.string text]) (fn := Tryz.f87) [] Tryz.func87 rfl Tryz.ntmps87 rfl (by simp) ?_
 refine kQ ?_
 refine kEF [1,2,4] ⟨[(1,.v (.string text)),(2,.p 0 0),(4,.p 1 0)],[⟨27,sndL s⟩,⟨27,sndZ⟩],[],[]⟩ ?_
 refine kS ?_
 refine kQ ?_
 refine kCD 1 [1,2,4,7] [(7,.v (.agg (sndL s).toArray))] 75 [.agg (sndL s).toArray] (some 8) rfl (xc_b fun ww hf => sSenderOk_c s.una s.data s.sent s.fin s.finSent s.done ww ) ?_
 intro _
 refine kRD 2 [1,2,4,10] [(10,.v (.bool (!(senderOk s))))] ?_
 refine kP 10 (!(senderOk s)) (fun h1 => ?_) (fun h1 => ?_)
 have h1n := not_t h1
 refine kED [1,2,4,13] [(13,.v (.bool true))] ?_
 refine kT ?_
 refine kQ ?_
 refine kEU [4,5] [(5,.v (.int .i64 0))] 1 ⟨27,sndL s⟩ ?_
 refine kR ?_
 have hmod : queued s text = (s,0) := by first | rfl | (simp [queued, *]; done) | grind [queued]
 exact ⟨[.agg (sndL s).toArray,.int .i64 0],by kernel_rfl,fun w' hb hf => by rw [hmod]; exact ⟨rfl,hb⟩⟩
 have h1n := not_f h1
 have h1nb := senderOk_bd (s := s) (by simpa using h1n)
 obtain ⟨h1nb0,h1nb1,h1nb2,h1nb3,h1nb4,h1nb5,h1nb6,h1nb7,h1nb8,h1nb9,h1nb10⟩ := h1nb
 refine kED [1,2,4,13] [(13,.v (.bool s.fin))] ?_
 refine kC (s.fin) (fun h2 => ?_) (fun h2 => ?_)
 refine kQ ?_
 refine kEU [4,5] [(5,.v (.int .i64 0))] 1 ⟨27,sndL s⟩ ?_
 refine kR ?_
 have hmod : queued s text = (s,0) := by first | rfl | (simp [queued, *]; done) | grind [queued]
 exact ⟨[.agg (sndL s).toArray,.int .i64 0],by kernel_rfl,fun w' hb hf => by rw [hmod]; exact ⟨rfl,hb⟩⟩
 refine kK ?_
 refine kQ ?_
 refine kCD 6 [1,2,4,16,20] [(16,.v (.int .i64 (text.size : Int))),(20,.v (.int .i64 (IntKind.i64.wrap (48 - (s.data.size : Int)))))] 116 [.int .i64 (text.size : Int),.int .i64 (IntKind.i64.wrap (48 - (s.data.size : Int)))] (some 21) rfl (xc_s fun ww hf => l1Min_c (text.size : Int) (IntKind.i64.wrap (48 - (s.data.size : Int))) ww ) ?_
 intro _
 refine kRS 1 [1,2,4,6] [(1,.v (.string text)),(2,.p 0 0),(4,.p 1 0),(6,.v (.int .i64 (min (text.size : Int) (IntKind.i64.wrap (48 - (s.data.size : Int))))))] ?_
 refine xl_eqS (t' := [(1,.v (.string text)),(2,.p 0 0),(4,.p 1 0),(6,.v (.int .i64 (min (text.size : Int) (48 - (s.data.size : Int)))))]) (by rw [show (IntKind.i64.wrap (48 - (s.data.size : Int))) = (48 - (s.data.size : Int)) from wrap_id (by omega) (by omega)]) ?_
 refine kED [1,2,4,6] [] ?_
 refine kS ?_
 refine xe_region [false,true] (by kernel_rfl) (fun ρ σ => ?_)
 refine kTS [0,2,3] [25,24,22,2,4,6] 5 [(25,.v (.int .i64 (min (text.size : Int) (48 - (s.data.size : Int))))),(24,.v (.string text)),(22,.p 0 1),(2,.p 0 0),(4,.p 1 0),(6,.v (.int .i64 (min (text.size : Int) (48 - (s.data.size : Int)))))] ?_
 refine kX 4 (.string (text.extract 0 (min (text.size : Int) (48 - (s.data.size : Int))).toNat)) rfl (fun _ _ ww hA => act_slS0 (min (text.size : Int) (48 - (s.data.size : Int))) hA rfl (by kernel_rfl) rfl rfl (by omega) (by omega) ww) ?_
 refine kA [1] ?_
 refine kSV 1 (.v (.string s.data)) rfl ?_
 refine kX 5 (.string (s.data ++ (text.extract 0 (min (text.size : Int) (48 - (s.data.size : Int))).toNat))) rfl (fun _ _ ww hA => act_bin hA rfl (by kernel_rfl) (by kernel_rfl) (str_add (by first | omega | (simp only [ByteArray.size_extract]; omega)) ww)) ?_
 refine kTS [6] [28,27,2,4,6] 1 [(28,.p 0 1),(27,.v (.string (s.data ++ (text.extract 0 (min (text.size : Int) (48 - (s.data.size : Int))).toNat)))),(2,.p 0 0),(4,.p 1 0),(6,.v (.int .i64 (min (text.size : Int) (48 - (s.data.size : Int)))))] ?_
 refine kA [7] ?_
 refine kSS 7 0 1 [.string (s.data ++ (text.extract 0 (min (text.size : Int) (48 - (s.data.size : Int))).toNat))] rfl ?_
 refine kZ ?_
 refine kQ ?_
 refine kEU [4,5] [(5,.v (.int .i64 (min (text.size : Int) (48 - (s.data.size : Int)))))] 1 ⟨27,sndL { s with data := s.data ++ (text.extract 0 (min (text.size : Int) (48 - (s.data.size : Int))).toNat) }⟩ ?_
 refine kR ?_
 have hmod : queued s text = (({ s with data := s.data ++ (text.extract 0 (min (text.size : Int) (48 - (s.data.size : Int))).toNat) }),(min (text.size : Int) (48 - (s.data.size : Int)))) := by first | rfl | (simp [queued, *]; done) | grind [queued]
 exact ⟨[.agg (sndL { s with data := s.data ++ (text.extract 0 (min (text.size : Int) (48 - (s.data.size : Int))).toNat) }).toArray,.int .i64 (min (text.size : Int) (48 - (s.data.size : Int)))],by kernel_rfl,fun w' hb hf => by rw [hmod]; exact ⟨rfl,hb⟩⟩
theorem yiNextChunk_c (s : Snd) (window : Int) (mss : Int) (w : World) (hwi : -9223372036854775808 ≤ window ∧ window ≤ 9223372036854775807) : Calls Tryz.prog 88 #[.agg (sndL s).toArray, .int .i64 window, .int .i64 mss] w fun e w' => e = .returned (.tuple #[.agg (chkL (nextChunk s window mss).1).toArray, .bool ((nextChunk s window mss).2)]) ∧ Below w.heap.size w w' := by
 refine x_calls (args := [.agg (sndL s).toArray,.int .i64 window,.int .i64 mss]) (fn := Tryz.f88) [] Tryz.func88 rfl Tryz.ntmps88 rfl (by simp) ?_
 refine kQ ?_
 refine kEF [1,2,3,6] ⟨[(1,.v (.int .i64 window)),(2,.v (.int .i64 mss)),(3,.p 0 0),(6,.p 1 0)],[⟨27,sndL s⟩,⟨89,chkL (⟨0,(⟨#[]⟩ : ByteArray),false⟩ : Chk)⟩],[],[]⟩ ?_
 refine kS ?_
 refine kQ ?_
 refine kCD 1 [1,2,3,6,12] [(12,.v (.agg (sndL s).toArray))] 81 [.agg (sndL s).toArray] (some 13) rfl (xc_b fun ww hf => iSenderOk_c s.una s.data s.sent s.fin s.finSent s.done ww ) ?_
 intro _
 refine kED [1,2,3,6,14] [(14,.v (.bool (!(senderOk s))))] ?_
 refine kC (!(senderOk s)) (fun h1 => ?_) (fun h1 => ?_)
 have hsn := not_t h1
 refine kQ ?_
 refine kOS 0 [6] [(6,.p 1 0)] (.agg (chkL (⟨0,(⟨#[]⟩ : ByteArray),false⟩ : Chk)).toArray) rfl (fun _ _ _ ww hr => act_build [] hr.1 rfl (by kernel_rfl) (by kernel_rfl) ww) ?_
 refine kED [6,7] [(7,.v (.bool false))] ?_
 refine kR ?_
 have hmod : nextChunk s window mss = ((⟨0,(⟨#[]⟩ : ByteArray),false⟩),false) := by first | rfl | (simp [nextChunk,zeroChk,chunkFin, *]; done) | (simp [nextChunk,zeroChk,chunkFin, *]; omega) | grind [nextChunk,zeroChk,chunkFin]
 exact ⟨[.agg (chkL (⟨0,(⟨#[]⟩ : ByteArray),false⟩ : Chk)).toArray,.bool false],by kernel_rfl,fun w' hb hf => by rw [hmod]; exact ⟨rfl,hb⟩⟩
 have h1b := senderOk_bd (s := s) (by simpa using h1)
 obtain ⟨h1b0,h1b1,h1b2,h1b3,h1b4,h1b5,h1b6,h1b7,h1b8,h1b9,h1b10⟩ := h1b
 have hsn := not_f h1
 obtain ⟨c0,c1,c2,c3,c4⟩ := chunkN_bd (window := window) (mss := mss) hsn
 have hez := rest_size hsn; have hwl := wnd_lt (window := window) (mss := mss) hsn; have hcj := chunkN_j (window := window) (mss := mss) hsn; have hxt := chunk_ext (window := window) (mss := mss) hsn; have hte := chunk_nil (window := window) (mss := mss) hsn
 refine kK ?_
 refine kQ ?_
 refine kOD 1 [2,3,6,16] [(16,.v (.int .i64 window))] (.int .i64 (max window (-1))) rfl (fun _ _ _ ww hr => act_max2 hr.1 rfl rfl rfl rfl rfl ww) ?_
 refine kCD 1 [2,3,6,17,18] [(18,.v (.agg (sndL s).toArray))] 57 [.agg (sndL s).toArray] (some 19) rfl (xc_b fun ww hf => iFlown_c s.una s.data s.sent s.fin s.finSent s.done ww ) ?_
 intro _
 refine kRS 2 [2,3,6,8] [(2,.v (.int .i64 mss)),(3,.p 0 0),(6,.p 1 0),(8,.v (.int .i64 (IntKind.i64.wrap ((max window (-1)) - (flown s)))))] ?_
 refine xl_eqS (t' := [(2,.v (.int .i64 mss)),(3,.p 0 0),(6,.p 1 0),(8,.v (.int .i64 ((max window (-1)) - (flown s))))]) (by rw [show (IntKind.i64.wrap ((max window (-1)) - (flown s))) = ((max window (-1)) - (flown s)) from wrap_id (by omega) (by omega)]) ?_
 refine kED [2,3,6,8] [] ?_
 refine kQ ?_
 refine kOD 4 [2,3,6,8,22,24] [(22,.v (.string s.data)),(24,.v (.int .i64 s.sent))] (.string (s.data.extract (s.sent).toNat s.data.size)) rfl (fun _ _ _ ww hr => act_slSe (s.sent) hr.1 rfl (by kernel_rfl) rfl rfl (by omega) (by omega) ww) ?_
 refine kED [2,3,6,8,9] [(9,.v (.string (s.data.extract (s.sent).toNat s.data.size)))] ?_
 refine kQ ?_
 refine kOD 4 [3,6,8,9,27,28,29] [(27,.v (.int .i64 ((s.data.extract (s.sent).toNat s.data.size).size : Int))),(28,.v (.int .i64 mss)),(29,.v (.int .i64 ((max window (-1)) - (flown s))))] (.int .i64 (min (min ((s.data.extract (s.sent).toNat s.data.size).size : Int) mss) ((max window (-1)) - (flown s)))) rfl (fun _ _ _ ww hr => act_min3 hr.1 rfl rfl rfl rfl rfl rfl ww) ?_
 refine kOD 0 [3,6,8,9,30] [] (.int .i64 (max 0 (min (min ((s.data.extract (s.sent).toNat s.data.size).size : Int) mss) ((max window (-1)) - (flown s))))) rfl (fun _ _ _ ww hr => act_max2 hr.1 rfl rfl rfl rfl rfl ww) ?_
 refine kRS 1 [3,6,8,9,10] [(3,.p 0 0),(6,.p 1 0),(8,.v (.int .i64 ((max window (-1)) - (flown s)))),(9,.v (.string (s.data.extract (s.sent).toNat s.data.size))),(10,.v (.int .i64 (max 0 (min (min ((s.data.extract (s.sent).toNat s.data.size).size : Int) mss) ((max window (-1)) - (flown s))))))] ?_
 refine xl_eqS (t' := [(3,.p 0 0),(6,.p 1 0),(8,.v (.int .i64 ((max window (-1)) - (flown s)))),(9,.v (.string (s.data.extract (s.sent).toNat s.data.size))),(10,.v (.int .i64 (chunkN s window mss)))]) (by rw [show ((s.data.extract (s.sent).toNat s.data.size).size : Int) = ((s.data.size : Int) - s.sent) from hez,show (max 0 (min (min ((s.data.size : Int) - s.sent) mss) ((max window (-1)) - (flown s)))) = (chunkN s window mss) from hcj]) ?_
 refine kED [3,6,8,9,10] [] ?_
 refine kS ?_
 refine xe_region [] (by kernel_rfl) (fun ρ σ => ?_)
 refine kTS [0,2,3,5,6] [38,35,34,32,3,6,8,9,10] 26 [(38,.v (.bool s.fin)),(35,.v (.int .i64 (chunkN s window mss))),(34,.v (.string (s.data.extract (s.sent).toNat s.data.size))),(32,.v (.agg (sndL s).toArray)),(3,.p 0 0),(6,.p 1 0),(8,.v (.int .i64 ((max window (-1)) - (flown s)))),(9,.v (.string (s.data.extract (s.sent).toNat s.data.size))),(10,.v (.int .i64 (chunkN s window mss)))] ?_
 refine kX 4 (.string ((s.data.extract (s.sent).toNat s.data.size).extract 0 (chunkN s window mss).toNat)) rfl (fun _ _ ww hA => act_slS0 (chunkN s window mss) hA rfl (by kernel_rfl) rfl rfl (by omega) (by omega) ww) ?_
 refine xe_eqS (t := [(36,.v (.string ((s.data.extract (s.sent).toNat s.data.size).extract 0 (chunkN s window mss).toNat))),(38,.v (.bool s.fin)),(35,.v (.int .i64 (chunkN s window mss))),(34,.v (.string (s.data.extract (s.sent).toNat s.data.size))),(32,.v (.agg (sndL s).toArray)),(3,.p 0 0),(6,.p 1 0),(8,.v (.int .i64 ((max window (-1)) - (flown s)))),(9,.v (.string (s.data.extract (s.sent).toNat s.data.size))),(10,.v (.int .i64 (chunkN s window mss)))]) (t' := [(36,.v (.string (s.data.extract (s.sent).toNat (s.sent + chunkN s window mss).toNat))),(38,.v (.bool s.fin)),(35,.v (.int .i64 (chunkN s window mss))),(34,.v (.string (s.data.extract (s.sent).toNat s.data.size))),(32,.v (.agg (sndL s).toArray)),(3,.p 0 0),(6,.p 1 0),(8,.v (.int .i64 ((max window (-1)) - (flown s)))),(9,.v (.string (s.data.extract (s.sent).toNat s.data.size))),(10,.v (.int .i64 (chunkN s window mss)))]) (by rw [show ((s.data.extract (s.sent).toNat s.data.size).extract 0 (chunkN s window mss).toNat) = (s.data.extract (s.sent).toNat (s.sent + chunkN s window mss).toNat) from hxt]) ?_
 refine kA [1,29] ⟨?_,?_⟩
 refine kSC 1 113 [.agg (sndL s).toArray] (some 33) rfl (xc_b fun ww hf => iNextOf_c s.una s.data s.sent s.fin s.finSent s.done ww ) ?_
 intro _
 refine kTS [7] [39,33,36,3,6,8,9,10] 23 [(39,.v (.bool s.fin)),(33,.v (.int .i64 (nextOf s))),(36,.v (.string (s.data.extract (s.sent).toNat (s.sent + chunkN s window mss).toNat))),(3,.p 0 0),(6,.p 1 0),(8,.v (.int .i64 ((max window (-1)) - (flown s)))),(9,.v (.string (s.data.extract (s.sent).toNat s.data.size))),(10,.v (.int .i64 (chunkN s window mss)))] ?_
 refine kY 39 (s.fin) (fun h2 => ?_) (fun h2 => ?_)
 refine kTS [8,9,10,11,12] [44,33,36,3,6,8,9,10] 18 [(44,.v (.bool (!s.finSent))),(33,.v (.int .i64 (nextOf s))),(36,.v (.string (s.data.extract (s.sent).toNat (s.sent + chunkN s window mss).toNat))),(3,.p 0 0),(6,.p 1 0),(8,.v (.int .i64 ((max window (-1)) - (flown s)))),(9,.v (.string (s.data.extract (s.sent).toNat s.data.size))),(10,.v (.int .i64 (chunkN s window mss)))] ?_
 refine kY 44 (!s.finSent) (fun h3 => ?_) (fun h3 => ?_)
 have h3n := not_t h3
 refine kTS [13,14,15,16,17] [49,33,36,6,8,9,10] 13 [(49,.v (.bool (!s.done))),(33,.v (.int .i64 (nextOf s))),(36,.v (.string (s.data.extract (s.sent).toNat (s.sent + chunkN s window mss).toNat))),(6,.p 1 0),(8,.v (.int .i64 ((max window (-1)) - (flown s)))),(9,.v (.string (s.data.extract (s.sent).toNat s.data.size))),(10,.v (.int .i64 (chunkN s window mss)))] ?_
 refine kY 49 (!s.done) (fun h4 => ?_) (fun h4 => ?_)
 have h4n := not_t h4
 refine kTS [18,19,20,21,22,23] [55,33,36,6,8,10] 7 [(55,.v (.bool ((chunkN s window mss) == ((s.data.extract (s.sent).toNat s.data.size).size : Int)))),(33,.v (.int .i64 (nextOf s))),(36,.v (.string (s.data.extract (s.sent).toNat (s.sent + chunkN s window mss).toNat))),(6,.p 1 0),(8,.v (.int .i64 ((max window (-1)) - (flown s)))),(10,.v (.int .i64 (chunkN s window mss)))] ?_
 refine xe_eqS (t := [(55,.v (.bool ((chunkN s window mss) == ((s.data.extract (s.sent).toNat s.data.size).size : Int)))),(33,.v (.int .i64 (nextOf s))),(36,.v (.string (s.data.extract (s.sent).toNat (s.sent + chunkN s window mss).toNat))),(6,.p 1 0),(8,.v (.int .i64 ((max window (-1)) - (flown s)))),(10,.v (.int .i64 (chunkN s window mss)))]) (t' := [(55,.v (.bool ((chunkN s window mss) == ((s.data.size : Int) - s.sent)))),(33,.v (.int .i64 (nextOf s))),(36,.v (.string (s.data.extract (s.sent).toNat (s.sent + chunkN s window mss).toNat))),(6,.p 1 0),(8,.v (.int .i64 ((max window (-1)) - (flown s)))),(10,.v (.int .i64 (chunkN s window mss)))]) (by rw [show ((s.data.extract (s.sent).toNat s.data.size).size : Int) = ((s.data.size : Int) - s.sent) from hez]) ?_
 refine kY 55 ((chunkN s window mss) == ((s.data.size : Int) - s.sent)) (fun h5 => ?_) (fun h5 => ?_)
 have h5p := eqT h5
 refine kTS [24,25,26,27] [59,33,36,6] 3 [(59,.v (.bool (decide (((max window (-1)) - (flown s)) > (chunkN s window mss))))),(33,.v (.int .i64 (nextOf s))),(36,.v (.string (s.data.extract (s.sent).toNat (s.sent + chunkN s window mss).toNat))),(6,.p 1 0)] ?_
 refine kX 28 (.agg (chkL (⟨nextOf s,s.data.extract (s.sent).toNat (s.sent + chunkN s window mss).toNat,decide (((max window (-1)) - (flown s)) > (chunkN s window mss))⟩ : Chk)).toArray) rfl (fun _ _ ww hA => act_build [(0,.int .i64 (nextOf s)),(1,.string (s.data.extract (s.sent).toNat (s.sent + chunkN s window mss).toNat)),(2,.bool (decide (((max window (-1)) - (flown s)) > (chunkN s window mss))))] hA rfl (by kernel_rfl) (by kernel_rfl) ww) ?_
 refine kA [29] ?_
 refine xs_box 29 ⟨89,chkL (⟨0,(⟨#[]⟩ : ByteArray),false⟩ : Chk)⟩ _ rfl (by kernel_rfl) (by kernel_rfl) (by kernel_rfl) (by kernel_rfl) rfl ?_
 refine kA [30] ?_
 refine kSS 30 2 0 (chkL (⟨nextOf s,s.data.extract (s.sent).toNat (s.sent + chunkN s window mss).toNat,decide (((max window (-1)) - (flown s)) > (chunkN s window mss))⟩ : Chk)) rfl ?_
 refine kZ ?_
 refine kS ?_
 refine kQ ?_
 refine kRS 4 [6,11,64] [(6,.p 1 0),(11,.p 2 0),(64,.v (.bool ((s.data.extract (s.sent).toNat (s.sent + chunkN s window mss).toNat).toList == (⟨#[]⟩ : ByteArray).toList)))] ?_
 refine xl_eqS (t' := [(6,.p 1 0),(11,.p 2 0),(64,.v (.bool (chunkN s window mss == 0)))]) (by rw [show ((s.data.extract (s.sent).toNat (s.sent + chunkN s window mss).toNat).toList == (⟨#[]⟩ : ByteArray).toList) = (chunkN s window mss == 0) from hte]) ?_
 refine kP 64 (chunkN s window mss == 0) (fun h6 => ?_) (fun h6 => ?_)
 have h6p := eqT h6
 refine kED [6,11,68] [(68,.v (.bool (!(decide (((max window (-1)) - (flown s)) > (chunkN s window mss))))))] ?_
 refine kC (!(decide (((max window (-1)) - (flown s)) > (chunkN s window mss)))) (fun h7 => ?_) (fun h7 => ?_)
 have h7n := not_t h7
 refine kQ ?_
 refine kOS 0 [6] [(6,.p 1 0)] (.agg (chkL (⟨0,(⟨#[]⟩ : ByteArray),false⟩ : Chk)).toArray) rfl (fun _ _ _ ww hr => act_build [] hr.1 rfl (by kernel_rfl) (by kernel_rfl) ww) ?_
 refine kED [6,7] [(7,.v (.bool false))] ?_
 refine kR ?_
 have hmod : nextChunk s window mss = ((⟨0,(⟨#[]⟩ : ByteArray),false⟩),false) := by first | rfl | (simp [nextChunk,zeroChk,chunkFin, *]; done) | (simp [nextChunk,zeroChk,chunkFin, *]; omega) | grind [nextChunk,zeroChk,chunkFin]
 exact ⟨[.agg (chkL (⟨0,(⟨#[]⟩ : ByteArray),false⟩ : Chk)).toArray,.bool false],by kernel_rfl,fun w' hb hf => by rw [hmod]; exact ⟨rfl,hb⟩⟩
 have h7n := not_f h7
 refine kK ?_
 refine kQ ?_
 refine kEU [6,7] [(7,.v (.bool true))] 1 ⟨89,chkL (⟨nextOf s,s.data.extract (s.sent).toNat (s.sent + chunkN s window mss).toNat,decide (((max window (-1)) - (flown s)) > (chunkN s window mss))⟩ : Chk)⟩ ?_
 refine kR ?_
 have hmod : nextChunk s window mss = ((⟨nextOf s,s.data.extract (s.sent).toNat (s.sent + chunkN s window mss).toNat,decide (((max window (-1)) - (flown s)) > (chunkN s window mss))⟩),true) := by first | rfl | (simp [nextChunk,zeroChk,chunkFin, *]; done) | (simp [nextChunk,zeroChk,chunkFin, *]; omega) | grind [nextChunk,zeroChk,chunkFin]
 exact ⟨[.agg (chkL (⟨nextOf s,s.data.extract (s.sent).toNat (s.sent + chunkN s window mss).toNat,decide (((max window (-1)) - (flown s)) > (chunkN s window mss))⟩ : Chk)).toArray,.bool true],by kernel_rfl,fun w' hb hf => by rw [hmod]; exact ⟨rfl,hb⟩⟩
 have h6p := eqF h6
 refine kED [6,11,68] [(68,.v (.bool false))] ?_
 refine kN ?_
 refine kK ?_
 refine kQ ?_
 refine kEU [6,7] [(7,.v (.bool true))] 1 ⟨89,chkL (⟨nextOf s,s.data.extract (s.sent).toNat (s.sent + chunkN s window mss).toNat,decide (((max window (-1)) - (flown s)) > (chunkN s window mss))⟩ : Chk)⟩ ?_
 refine kR ?_
 have hmod : nextChunk s window mss = ((⟨nextOf s,s.data.extract (s.sent).toNat (s.sent + chunkN s window mss).toNat,decide (((max window (-1)) - (flown s)) > (chunkN s window mss))⟩),true) := by first | rfl | (simp [nextChunk,zeroChk,chunkFin, *]; done) | (simp [nextChunk,zeroChk,chunkFin, *]; omega) | grind [nextChunk,zeroChk,chunkFin]
 exact ⟨[.agg (chkL (⟨nextOf s,s.data.extract (s.sent).toNat (s.sent + chunkN s window mss).toNat,decide (((max window (-1)) - (flown s)) > (chunkN s window mss))⟩ : Chk)).toArray,.bool true],by kernel_rfl,fun w' hb hf => by rw [hmod]; exact ⟨rfl,hb⟩⟩
 have h5p := eqF h5
 refine kTS [24,25,26,27] [59,33,36,6] 3 [(59,.v (.bool false)),(33,.v (.int .i64 (nextOf s))),(36,.v (.string (s.data.extract (s.sent).toNat (s.sent + chunkN s window mss).toNat))),(6,.p 1 0)] ?_
 refine kX 28 (.agg (chkL (⟨nextOf s,s.data.extract (s.sent).toNat (s.sent + chunkN s window mss).toNat,false⟩ : Chk)).toArray) rfl (fun _ _ ww hA => act_build [(0,.int .i64 (nextOf s)),(1,.string (s.data.extract (s.sent).toNat (s.sent + chunkN s window mss).toNat)),(2,.bool false)] hA rfl (by kernel_rfl) (by kernel_rfl) ww) ?_
 refine kA [29] ?_
 refine xs_box 29 ⟨89,chkL (⟨0,(⟨#[]⟩ : ByteArray),false⟩ : Chk)⟩ _ rfl (by kernel_rfl) (by kernel_rfl) (by kernel_rfl) (by kernel_rfl) rfl ?_
 refine kA [30] ?_
 refine kSS 30 2 0 (chkL (⟨nextOf s,s.data.extract (s.sent).toNat (s.sent + chunkN s window mss).toNat,false⟩ : Chk)) rfl ?_
 refine kZ ?_
 refine kS ?_
 refine kQ ?_
 refine kRS 4 [6,11,64] [(6,.p 1 0),(11,.p 2 0),(64,.v (.bool ((s.data.extract (s.sent).toNat (s.sent + chunkN s window mss).toNat).toList == (⟨#[]⟩ : ByteArray).toList)))] ?_
 refine xl_eqS (t' := [(6,.p 1 0),(11,.p 2 0),(64,.v (.bool (chunkN s window mss == 0)))]) (by rw [show ((s.data.extract (s.sent).toNat (s.sent + chunkN s window mss).toNat).toList == (⟨#[]⟩ : ByteArray).toList) = (chunkN s window mss == 0) from hte]) ?_
 refine kP 64 (chunkN s window mss == 0) (fun h8 => ?_) (fun h8 => ?_)
 have h8p := eqT h8
 refine kED [6,11,68] [(68,.v (.bool true))] ?_
 refine kT ?_
 refine kQ ?_
 refine kOS 0 [6] [(6,.p 1 0)] (.agg (chkL (⟨0,(⟨#[]⟩ : ByteArray),false⟩ : Chk)).toArray) rfl (fun _ _ _ ww hr => act_build [] hr.1 rfl (by kernel_rfl) (by kernel_rfl) ww) ?_
 refine kED [6,7] [(7,.v (.bool false))] ?_
 refine kR ?_
 have hmod : nextChunk s window mss = ((⟨0,(⟨#[]⟩ : ByteArray),false⟩),false) := by first | rfl | (simp [nextChunk,zeroChk,chunkFin, *]; done) | (simp [nextChunk,zeroChk,chunkFin, *]; omega) | grind [nextChunk,zeroChk,chunkFin]
 exact ⟨[.agg (chkL (⟨0,(⟨#[]⟩ : ByteArray),false⟩ : Chk)).toArray,.bool false],by kernel_rfl,fun w' hb hf => by rw [hmod]; exact ⟨rfl,hb⟩⟩
 have h8p := eqF h8
 refine kED [6,11,68] [(68,.v (.bool false))] ?_
 refine kN ?_
 refine kK ?_
 refine kQ ?_
 refine kEU [6,7] [(7,.v (.bool true))] 1 ⟨89,chkL (⟨nextOf s,s.data.extract (s.sent).toNat (s.sent + chunkN s window mss).toNat,false⟩ : Chk)⟩ ?_
 refine kR ?_
 have hmod : nextChunk s window mss = ((⟨nextOf s,s.data.extract (s.sent).toNat (s.sent + chunkN s window mss).toNat,false⟩),true) := by first | rfl | (simp [nextChunk,zeroChk,chunkFin, *]; done) | (simp [nextChunk,zeroChk,chunkFin, *]; omega) | grind [nextChunk,zeroChk,chunkFin]
 exact ⟨[.agg (chkL (⟨nextOf s,s.data.extract (s.sent).toNat (s.sent + chunkN s window mss).toNat,false⟩ : Chk)).toArray,.bool true],by kernel_rfl,fun w' hb hf => by rw [hmod]; exact ⟨rfl,hb⟩⟩
 have h4n := not_f h4
 refine kTS [18,19,20,21,22,23,24,25,26,27] [59,33,36,6] 3 [(59,.v (.bool false)),(33,.v (.int .i64 (nextOf s))),(36,.v (.string (s.data.extract (s.sent).toNat (s.sent + chunkN s window mss).toNat))),(6,.p 1 0)] ?_
 refine kX 28 (.agg (chkL (⟨nextOf s,s.data.extract (s.sent).toNat (s.sent + chunkN s window mss).toNat,false⟩ : Chk)).toArray) rfl (fun _ _ ww hA => act_build [(0,.int .i64 (nextOf s)),(1,.string (s.data.extract (s.sent).toNat (s.sent + chunkN s window mss).toNat)),(2,.bool false)] hA rfl (by kernel_rfl) (by kernel_rfl) ww) ?_
 refine kA [29] ?_
 refine xs_box 29 ⟨89,chkL (⟨0,(⟨#[]⟩ : ByteArray),false⟩ : Chk)⟩ _ rfl (by kernel_rfl) (by kernel_rfl) (by kernel_rfl) (by kernel_rfl) rfl ?_
 refine kA [30] ?_
 refine kSS 30 2 0 (chkL (⟨nextOf s,s.data.extract (s.sent).toNat (s.sent + chunkN s window mss).toNat,false⟩ : Chk)) rfl ?_
 refine kZ ?_
 refine kS ?_
 refine kQ ?_
 refine kRS 4 [6,11,64] [(6,.p 1 0),(11,.p 2 0),(64,.v (.bool ((s.data.extract (s.sent).toNat (s.sent + chunkN s window mss).toNat).toList == (⟨#[]⟩ : ByteArray).toList)))] ?_
 refine xl_eqS (t' := [(6,.p 1 0),(11,.p 2 0),(64,.v (.bool (chunkN s window mss == 0)))]) (by rw [show ((s.data.extract (s.sent).toNat (s.sent + chunkN s window mss).toNat).toList == (⟨#[]⟩ : ByteArray).toList) = (chunkN s window mss == 0) from hte]) ?_
 refine kP 64 (chunkN s window mss == 0) (fun h9 => ?_) (fun h9 => ?_)
 have h9p := eqT h9
 refine kED [6,11,68] [(68,.v (.bool true))] ?_
 refine kT ?_
 refine kQ ?_
 refine kOS 0 [6] [(6,.p 1 0)] (.agg (chkL (⟨0,(⟨#[]⟩ : ByteArray),false⟩ : Chk)).toArray) rfl (fun _ _ _ ww hr => act_build [] hr.1 rfl (by kernel_rfl) (by kernel_rfl) ww) ?_
 refine kED [6,7] [(7,.v (.bool false))] ?_
 refine kR ?_
 have hmod : nextChunk s window mss = ((⟨0,(⟨#[]⟩ : ByteArray),false⟩),false) := by first | rfl | (simp [nextChunk,zeroChk,chunkFin, *]; done) | (simp [nextChunk,zeroChk,chunkFin, *]; omega) | grind [nextChunk,zeroChk,chunkFin]
 exact ⟨[.agg (chkL (⟨0,(⟨#[]⟩ : ByteArray),false⟩ : Chk)).toArray,.bool false],by kernel_rfl,fun w' hb hf => by rw [hmod]; exact ⟨rfl,hb⟩⟩
 have h9p := eqF h9
 refine kED [6,11,68] [(68,.v (.bool false))] ?_
 refine kN ?_
 refine kK ?_
 refine kQ ?_
 refine kEU [6,7] [(7,.v (.bool true))] 1 ⟨89,chkL (⟨nextOf s,s.data.extract (s.sent).toNat (s.sent + chunkN s window mss).toNat,false⟩ : Chk)⟩ ?_
 refine kR ?_
 have hmod : nextChunk s window mss = ((⟨nextOf s,s.data.extract (s.sent).toNat (s.sent + chunkN s window mss).toNat,false⟩),true) := by first | rfl | (simp [nextChunk,zeroChk,chunkFin, *]; done) | (simp [nextChunk,zeroChk,chunkFin, *]; omega) | grind [nextChunk,zeroChk,chunkFin]
 exact ⟨[.agg (chkL (⟨nextOf s,s.data.extract (s.sent).toNat (s.sent + chunkN s window mss).toNat,false⟩ : Chk)).toArray,.bool true],by kernel_rfl,fun w' hb hf => by rw [hmod]; exact ⟨rfl,hb⟩⟩
 have h3n := not_f h3
 refine kTS [13,14,15,16,17,18,19,20,21,22,23,24,25,26,27] [59,33,36,6] 3 [(59,.v (.bool false)),(33,.v (.int .i64 (nextOf s))),(36,.v (.string (s.data.extract (s.sent).toNat (s.sent + chunkN s window mss).toNat))),(6,.p 1 0)] ?_
 refine kX 28 (.agg (chkL (⟨nextOf s,s.data.extract (s.sent).toNat (s.sent + chunkN s window mss).toNat,false⟩ : Chk)).toArray) rfl (fun _ _ ww hA => act_build [(0,.int .i64 (nextOf s)),(1,.string (s.data.extract (s.sent).toNat (s.sent + chunkN s window mss).toNat)),(2,.bool false)] hA rfl (by kernel_rfl) (by kernel_rfl) ww) ?_
 refine kA [29] ?_
 refine xs_box 29 ⟨89,chkL (⟨0,(⟨#[]⟩ : ByteArray),false⟩ : Chk)⟩ _ rfl (by kernel_rfl) (by kernel_rfl) (by kernel_rfl) (by kernel_rfl) rfl ?_
 refine kA [30] ?_
 refine kSS 30 2 0 (chkL (⟨nextOf s,s.data.extract (s.sent).toNat (s.sent + chunkN s window mss).toNat,false⟩ : Chk)) rfl ?_
 refine kZ ?_
 refine kS ?_
 refine kQ ?_
 refine kRS 4 [6,11,64] [(6,.p 1 0),(11,.p 2 0),(64,.v (.bool ((s.data.extract (s.sent).toNat (s.sent + chunkN s window mss).toNat).toList == (⟨#[]⟩ : ByteArray).toList)))] ?_
 refine xl_eqS (t' := [(6,.p 1 0),(11,.p 2 0),(64,.v (.bool (chunkN s window mss == 0)))]) (by rw [show ((s.data.extract (s.sent).toNat (s.sent + chunkN s window mss).toNat).toList == (⟨#[]⟩ : ByteArray).toList) = (chunkN s window mss == 0) from hte]) ?_
 refine kP 64 (chunkN s window mss == 0) (fun h10 => ?_) (fun h10 => ?_)
 have h10p := eqT h10
 refine kED [6,11,68] [(68,.v (.bool true))] ?_
 refine kT ?_
 refine kQ ?_
 refine kOS 0 [6] [(6,.p 1 0)] (.agg (chkL (⟨0,(⟨#[]⟩ : ByteArray),false⟩ : Chk)).toArray) rfl (fun _ _ _ ww hr => act_build [] hr.1 rfl (by kernel_rfl) (by kernel_rfl) ww) ?_
 refine kED [6,7] [(7,.v (.bool false))] ?_
 refine kR ?_
 have hmod : nextChunk s window mss = ((⟨0,(⟨#[]⟩ : ByteArray),false⟩),false) := by first | rfl | (simp [nextChunk,zeroChk,chunkFin, *]; done) | (simp [nextChunk,zeroChk,chunkFin, *]; omega) | grind [nextChunk,zeroChk,chunkFin]
 exact ⟨[.agg (chkL (⟨0,(⟨#[]⟩ : ByteArray),false⟩ : Chk)).toArray,.bool false],by kernel_rfl,fun w' hb hf => by rw [hmod]; exact ⟨rfl,hb⟩⟩
 have h10p := eqF h10
 refine kED [6,11,68] [(68,.v (.bool false))] ?_
 refine kN ?_
 refine kK ?_
 refine kQ ?_
 refine kEU [6,7] [(7,.v (.bool true))] 1 ⟨89,chkL (⟨nextOf s,s.data.extract (s.sent).toNat (s.sent + chunkN s window mss).toNat,false⟩ : Chk)⟩ ?_
 refine kR ?_
 have hmod : nextChunk s window mss = ((⟨nextOf s,s.data.extract (s.sent).toNat (s.sent + chunkN s window mss).toNat,false⟩),true) := by first | rfl | (simp [nextChunk,zeroChk,chunkFin, *]; done) | (simp [nextChunk,zeroChk,chunkFin, *]; omega) | grind [nextChunk,zeroChk,chunkFin]
 exact ⟨[.agg (chkL (⟨nextOf s,s.data.extract (s.sent).toNat (s.sent + chunkN s window mss).toNat,false⟩ : Chk)).toArray,.bool true],by kernel_rfl,fun w' hb hf => by rw [hmod]; exact ⟨rfl,hb⟩⟩
 refine kTS [8,9,10,11,12,13,14,15,16,17,18,19,20,21,22,23,24,25,26,27] [59,33,36,6] 3 [(59,.v (.bool false)),(33,.v (.int .i64 (nextOf s))),(36,.v (.string (s.data.extract (s.sent).toNat (s.sent + chunkN s window mss).toNat))),(6,.p 1 0)] ?_
 refine kX 28 (.agg (chkL (⟨nextOf s,s.data.extract (s.sent).toNat (s.sent + chunkN s window mss).toNat,false⟩ : Chk)).toArray) rfl (fun _ _ ww hA => act_build [(0,.int .i64 (nextOf s)),(1,.string (s.data.extract (s.sent).toNat (s.sent + chunkN s window mss).toNat)),(2,.bool false)] hA rfl (by kernel_rfl) (by kernel_rfl) ww) ?_
 refine kA [29] ?_
 refine xs_box 29 ⟨89,chkL (⟨0,(⟨#[]⟩ : ByteArray),false⟩ : Chk)⟩ _ rfl (by kernel_rfl) (by kernel_rfl) (by kernel_rfl) (by kernel_rfl) rfl ?_
 refine kA [30] ?_
 refine kSS 30 2 0 (chkL (⟨nextOf s,s.data.extract (s.sent).toNat (s.sent + chunkN s window mss).toNat,false⟩ : Chk)) rfl ?_
 refine kZ ?_
 refine kS ?_
 refine kQ ?_
 refine kRS 4 [6,11,64] [(6,.p 1 0),(11,.p 2 0),(64,.v (.bool ((s.data.extract (s.sent).toNat (s.sent + chunkN s window mss).toNat).toList == (⟨#[]⟩ : ByteArray).toList)))] ?_
 refine xl_eqS (t' := [(6,.p 1 0),(11,.p 2 0),(64,.v (.bool (chunkN s window mss == 0)))]) (by rw [show ((s.data.extract (s.sent).toNat (s.sent + chunkN s window mss).toNat).toList == (⟨#[]⟩ : ByteArray).toList) = (chunkN s window mss == 0) from hte]) ?_
 refine kP 64 (chunkN s window mss == 0) (fun h11 => ?_) (fun h11 => ?_)
 have h11p := eqT h11
 refine kED [6,11,68] [(68,.v (.bool true))] ?_
 refine kT ?_
 refine kQ ?_
 refine kOS 0 [6] [(6,.p 1 0)] (.agg (chkL (⟨0,(⟨#[]⟩ : ByteArray),false⟩ : Chk)).toArray) rfl (fun _ _ _ ww hr => act_build [] hr.1 rfl (by kernel_rfl) (by kernel_rfl) ww) ?_
 refine kED [6,7] [(7,.v (.bool false))] ?_
 refine kR ?_
 have hmod : nextChunk s window mss = ((⟨0,(⟨#[]⟩ : ByteArray),false⟩),false) := by first | rfl | (simp [nextChunk,zeroChk,chunkFin, *]; done) | (simp [nextChunk,zeroChk,chunkFin, *]; omega) | grind [nextChunk,zeroChk,chunkFin]
 exact ⟨[.agg (chkL (⟨0,(⟨#[]⟩ : ByteArray),false⟩ : Chk)).toArray,.bool false],by kernel_rfl,fun w' hb hf => by rw [hmod]; exact ⟨rfl,hb⟩⟩
 have h11p := eqF h11
 refine kED [6,11,68] [(68,.v (.bool false))] ?_
 refine kN ?_
 refine kK ?_
 refine kQ ?_
 refine kEU [6,7] [(7,.v (.bool true))] 1 ⟨89,chkL (⟨nextOf s,s.data.extract (s.sent).toNat (s.sent + chunkN s window mss).toNat,false⟩ : Chk)⟩ ?_
 refine kR ?_
 have hmod : nextChunk s window mss = ((⟨nextOf s,s.data.extract (s.sent).toNat (s.sent + chunkN s window mss).toNat,false⟩),true) := by first | rfl | (simp [nextChunk,zeroChk,chunkFin, *]; done) | (simp [nextChunk,zeroChk,chunkFin, *]; omega) | grind [nextChunk,zeroChk,chunkFin]
 exact ⟨[.agg (chkL (⟨nextOf s,s.data.extract (s.sent).toNat (s.sent + chunkN s window mss).toNat,false⟩ : Chk)).toArray,.bool true],by kernel_rfl,fun w' hb hf => by rw [hmod]; exact ⟨rfl,hb⟩⟩
 refine xs_box 29 ⟨89,chkL (⟨0,(⟨#[]⟩ : ByteArray),false⟩ : Chk)⟩ _ rfl (by kernel_rfl) (by kernel_rfl) (by kernel_rfl) (by kernel_rfl) rfl ?_
 refine kA [1] ?_
 refine kSC 1 113 [.agg (sndL s).toArray] (some 33) rfl (xc_b fun ww hf => iNextOf_c s.una s.data s.sent s.fin s.finSent s.done ww ) ?_
 intro _
 refine kTS [7] [39,33,11,36,3,6,8,9,10] 22 [(39,.v (.bool s.fin)),(33,.v (.int .i64 (nextOf s))),(11,.p 2 0),(36,.v (.string (s.data.extract (s.sent).toNat (s.sent + chunkN s window mss).toNat))),(3,.p 0 0),(6,.p 1 0),(8,.v (.int .i64 ((max window (-1)) - (flown s)))),(9,.v (.string (s.data.extract (s.sent).toNat s.data.size))),(10,.v (.int .i64 (chunkN s window mss)))] ?_
 refine kY 39 (s.fin) (fun h12 => ?_) (fun h12 => ?_)
 refine kTS [8,9,10,11,12] [44,33,11,36,3,6,8,9,10] 17 [(44,.v (.bool (!s.finSent))),(33,.v (.int .i64 (nextOf s))),(11,.p 2 0),(36,.v (.string (s.data.extract (s.sent).toNat (s.sent + chunkN s window mss).toNat))),(3,.p 0 0),(6,.p 1 0),(8,.v (.int .i64 ((max window (-1)) - (flown s)))),(9,.v (.string (s.data.extract (s.sent).toNat s.data.size))),(10,.v (.int .i64 (chunkN s window mss)))] ?_
 refine kY 44 (!s.finSent) (fun h13 => ?_) (fun h13 => ?_)
 have h13n := not_t h13
 refine kTS [13,14,15,16,17] [49,33,11,36,6,8,9,10] 12 [(49,.v (.bool (!s.done))),(33,.v (.int .i64 (nextOf s))),(11,.p 2 0),(36,.v (.string (s.data.extract (s.sent).toNat (s.sent + chunkN s window mss).toNat))),(6,.p 1 0),(8,.v (.int .i64 ((max window (-1)) - (flown s)))),(9,.v (.string (s.data.extract (s.sent).toNat s.data.size))),(10,.v (.int .i64 (chunkN s window mss)))] ?_
 refine kY 49 (!s.done) (fun h14 => ?_) (fun h14 => ?_)
 have h14n := not_t h14
 refine kTS [18,19,20,21,22,23] [55,33,11,36,6,8,10] 6 [(55,.v (.bool ((chunkN s window mss) == ((s.data.extract (s.sent).toNat s.data.size).size : Int)))),(33,.v (.int .i64 (nextOf s))),(11,.p 2 0),(36,.v (.string (s.data.extract (s.sent).toNat (s.sent + chunkN s window mss).toNat))),(6,.p 1 0),(8,.v (.int .i64 ((max window (-1)) - (flown s)))),(10,.v (.int .i64 (chunkN s window mss)))] ?_
 refine xe_eqS (t := [(55,.v (.bool ((chunkN s window mss) == ((s.data.extract (s.sent).toNat s.data.size).size : Int)))),(33,.v (.int .i64 (nextOf s))),(11,.p 2 0),(36,.v (.string (s.data.extract (s.sent).toNat (s.sent + chunkN s window mss).toNat))),(6,.p 1 0),(8,.v (.int .i64 ((max window (-1)) - (flown s)))),(10,.v (.int .i64 (chunkN s window mss)))]) (t' := [(55,.v (.bool ((chunkN s window mss) == ((s.data.size : Int) - s.sent)))),(33,.v (.int .i64 (nextOf s))),(11,.p 2 0),(36,.v (.string (s.data.extract (s.sent).toNat (s.sent + chunkN s window mss).toNat))),(6,.p 1 0),(8,.v (.int .i64 ((max window (-1)) - (flown s)))),(10,.v (.int .i64 (chunkN s window mss)))]) (by rw [show ((s.data.extract (s.sent).toNat s.data.size).size : Int) = ((s.data.size : Int) - s.sent) from hez]) ?_
 refine kY 55 ((chunkN s window mss) == ((s.data.size : Int) - s.sent)) (fun h15 => ?_) (fun h15 => ?_)
 have h15p := eqT h15
 refine kTS [24,25,26,27] [59,33,11,36,6] 2 [(59,.v (.bool (decide (((max window (-1)) - (flown s)) > (chunkN s window mss))))),(33,.v (.int .i64 (nextOf s))),(11,.p 2 0),(36,.v (.string (s.data.extract (s.sent).toNat (s.sent + chunkN s window mss).toNat))),(6,.p 1 0)] ?_
 refine kX 28 (.agg (chkL (⟨nextOf s,s.data.extract (s.sent).toNat (s.sent + chunkN s window mss).toNat,decide (((max window (-1)) - (flown s)) > (chunkN s window mss))⟩ : Chk)).toArray) rfl (fun _ _ ww hA => act_build [(0,.int .i64 (nextOf s)),(1,.string (s.data.extract (s.sent).toNat (s.sent + chunkN s window mss).toNat)),(2,.bool (decide (((max window (-1)) - (flown s)) > (chunkN s window mss))))] hA rfl (by kernel_rfl) (by kernel_rfl) ww) ?_
 refine kA [30] ?_
 refine kSS 30 2 0 (chkL (⟨nextOf s,s.data.extract (s.sent).toNat (s.sent + chunkN s window mss).toNat,decide (((max window (-1)) - (flown s)) > (chunkN s window mss))⟩ : Chk)) rfl ?_
 refine kZ ?_
 refine kS ?_
 refine kQ ?_
 refine kRS 4 [6,11,64] [(6,.p 1 0),(11,.p 2 0),(64,.v (.bool ((s.data.extract (s.sent).toNat (s.sent + chunkN s window mss).toNat).toList == (⟨#[]⟩ : ByteArray).toList)))] ?_
 refine xl_eqS (t' := [(6,.p 1 0),(11,.p 2 0),(64,.v (.bool (chunkN s window mss == 0)))]) (by rw [show ((s.data.extract (s.sent).toNat (s.sent + chunkN s window mss).toNat).toList == (⟨#[]⟩ : ByteArray).toList) = (chunkN s window mss == 0) from hte]) ?_
 refine kP 64 (chunkN s window mss == 0) (fun h16 => ?_) (fun h16 => ?_)
 have h16p := eqT h16
 refine kED [6,11,68] [(68,.v (.bool (!(decide (((max window (-1)) - (flown s)) > (chunkN s window mss))))))] ?_
 refine kC (!(decide (((max window (-1)) - (flown s)) > (chunkN s window mss)))) (fun h17 => ?_) (fun h17 => ?_)
 have h17n := not_t h17
 refine kQ ?_
 refine kOS 0 [6] [(6,.p 1 0)] (.agg (chkL (⟨0,(⟨#[]⟩ : ByteArray),false⟩ : Chk)).toArray) rfl (fun _ _ _ ww hr => act_build [] hr.1 rfl (by kernel_rfl) (by kernel_rfl) ww) ?_
 refine kED [6,7] [(7,.v (.bool false))] ?_
 refine kR ?_
 have hmod : nextChunk s window mss = ((⟨0,(⟨#[]⟩ : ByteArray),false⟩),false) := by first | rfl | (simp [nextChunk,zeroChk,chunkFin, *]; done) | (simp [nextChunk,zeroChk,chunkFin, *]; omega) | grind [nextChunk,zeroChk,chunkFin]
 exact ⟨[.agg (chkL (⟨0,(⟨#[]⟩ : ByteArray),false⟩ : Chk)).toArray,.bool false],by kernel_rfl,fun w' hb hf => by rw [hmod]; exact ⟨rfl,hb⟩⟩
 have h17n := not_f h17
 refine kK ?_
 refine kQ ?_
 refine kEU [6,7] [(7,.v (.bool true))] 1 ⟨89,chkL (⟨nextOf s,s.data.extract (s.sent).toNat (s.sent + chunkN s window mss).toNat,decide (((max window (-1)) - (flown s)) > (chunkN s window mss))⟩ : Chk)⟩ ?_
 refine kR ?_
 have hmod : nextChunk s window mss = ((⟨nextOf s,s.data.extract (s.sent).toNat (s.sent + chunkN s window mss).toNat,decide (((max window (-1)) - (flown s)) > (chunkN s window mss))⟩),true) := by first | rfl | (simp [nextChunk,zeroChk,chunkFin, *]; done) | (simp [nextChunk,zeroChk,chunkFin, *]; omega) | grind [nextChunk,zeroChk,chunkFin]
 exact ⟨[.agg (chkL (⟨nextOf s,s.data.extract (s.sent).toNat (s.sent + chunkN s window mss).toNat,decide (((max window (-1)) - (flown s)) > (chunkN s window mss))⟩ : Chk)).toArray,.bool true],by kernel_rfl,fun w' hb hf => by rw [hmod]; exact ⟨rfl,hb⟩⟩
 have h16p := eqF h16
 refine kED [6,11,68] [(68,.v (.bool false))] ?_
 refine kN ?_
 refine kK ?_
 refine kQ ?_
 refine kEU [6,7] [(7,.v (.bool true))] 1 ⟨89,chkL (⟨nextOf s,s.data.extract (s.sent).toNat (s.sent + chunkN s window mss).toNat,decide (((max window (-1)) - (flown s)) > (chunkN s window mss))⟩ : Chk)⟩ ?_
 refine kR ?_
 have hmod : nextChunk s window mss = ((⟨nextOf s,s.data.extract (s.sent).toNat (s.sent + chunkN s window mss).toNat,decide (((max window (-1)) - (flown s)) > (chunkN s window mss))⟩),true) := by first | rfl | (simp [nextChunk,zeroChk,chunkFin, *]; done) | (simp [nextChunk,zeroChk,chunkFin, *]; omega) | grind [nextChunk,zeroChk,chunkFin]
 exact ⟨[.agg (chkL (⟨nextOf s,s.data.extract (s.sent).toNat (s.sent + chunkN s window mss).toNat,decide (((max window (-1)) - (flown s)) > (chunkN s window mss))⟩ : Chk)).toArray,.bool true],by kernel_rfl,fun w' hb hf => by rw [hmod]; exact ⟨rfl,hb⟩⟩
 have h15p := eqF h15
 refine kTS [24,25,26,27] [59,33,11,36,6] 2 [(59,.v (.bool false)),(33,.v (.int .i64 (nextOf s))),(11,.p 2 0),(36,.v (.string (s.data.extract (s.sent).toNat (s.sent + chunkN s window mss).toNat))),(6,.p 1 0)] ?_
 refine kX 28 (.agg (chkL (⟨nextOf s,s.data.extract (s.sent).toNat (s.sent + chunkN s window mss).toNat,false⟩ : Chk)).toArray) rfl (fun _ _ ww hA => act_build [(0,.int .i64 (nextOf s)),(1,.string (s.data.extract (s.sent).toNat (s.sent + chunkN s window mss).toNat)),(2,.bool false)] hA rfl (by kernel_rfl) (by kernel_rfl) ww) ?_
 refine kA [30] ?_
 refine kSS 30 2 0 (chkL (⟨nextOf s,s.data.extract (s.sent).toNat (s.sent + chunkN s window mss).toNat,false⟩ : Chk)) rfl ?_
 refine kZ ?_
 refine kS ?_
 refine kQ ?_
 refine kRS 4 [6,11,64] [(6,.p 1 0),(11,.p 2 0),(64,.v (.bool ((s.data.extract (s.sent).toNat (s.sent + chunkN s window mss).toNat).toList == (⟨#[]⟩ : ByteArray).toList)))] ?_
 refine xl_eqS (t' := [(6,.p 1 0),(11,.p 2 0),(64,.v (.bool (chunkN s window mss == 0)))]) (by rw [show ((s.data.extract (s.sent).toNat (s.sent + chunkN s window mss).toNat).toList == (⟨#[]⟩ : ByteArray).toList) = (chunkN s window mss == 0) from hte]) ?_
 refine kP 64 (chunkN s window mss == 0) (fun h18 => ?_) (fun h18 => ?_)
 have h18p := eqT h18
 refine kED [6,11,68] [(68,.v (.bool true))] ?_
 refine kT ?_
 refine kQ ?_
 refine kOS 0 [6] [(6,.p 1 0)] (.agg (chkL (⟨0,(⟨#[]⟩ : ByteArray),false⟩ : Chk)).toArray) rfl (fun _ _ _ ww hr => act_build [] hr.1 rfl (by kernel_rfl) (by kernel_rfl) ww) ?_
 refine kED [6,7] [(7,.v (.bool false))] ?_
 refine kR ?_
 have hmod : nextChunk s window mss = ((⟨0,(⟨#[]⟩ : ByteArray),false⟩),false) := by first | rfl | (simp [nextChunk,zeroChk,chunkFin, *]; done) | (simp [nextChunk,zeroChk,chunkFin, *]; omega) | grind [nextChunk,zeroChk,chunkFin]
 exact ⟨[.agg (chkL (⟨0,(⟨#[]⟩ : ByteArray),false⟩ : Chk)).toArray,.bool false],by kernel_rfl,fun w' hb hf => by rw [hmod]; exact ⟨rfl,hb⟩⟩
 have h18p := eqF h18
 refine kED [6,11,68] [(68,.v (.bool false))] ?_
 refine kN ?_
 refine kK ?_
 refine kQ ?_
 refine kEU [6,7] [(7,.v (.bool true))] 1 ⟨89,chkL (⟨nextOf s,s.data.extract (s.sent).toNat (s.sent + chunkN s window mss).toNat,false⟩ : Chk)⟩ ?_
 refine kR ?_
 have hmod : nextChunk s window mss = ((⟨nextOf s,s.data.extract (s.sent).toNat (s.sent + chunkN s window mss).toNat,false⟩),true) := by first | rfl | (simp [nextChunk,zeroChk,chunkFin, *]; done) | (simp [nextChunk,zeroChk,chunkFin, *]; omega) | grind [nextChunk,zeroChk,chunkFin]
 exact ⟨[.agg (chkL (⟨nextOf s,s.data.extract (s.sent).toNat (s.sent + chunkN s window mss).toNat,false⟩ : Chk)).toArray,.bool true],by kernel_rfl,fun w' hb hf => by rw [hmod]; exact ⟨rfl,hb⟩⟩
 have h14n := not_f h14
 refine kTS [18,19,20,21,22,23,24,25,26,27] [59,33,11,36,6] 2 [(59,.v (.bool false)),(33,.v (.int .i64 (nextOf s))),(11,.p 2 0),(36,.v (.string (s.data.extract (s.sent).toNat (s.sent + chunkN s window mss).toNat))),(6,.p 1 0)] ?_
 refine kX 28 (.agg (chkL (⟨nextOf s,s.data.extract (s.sent).toNat (s.sent + chunkN s window mss).toNat,false⟩ : Chk)).toArray) rfl (fun _ _ ww hA => act_build [(0,.int .i64 (nextOf s)),(1,.string (s.data.extract (s.sent).toNat (s.sent + chunkN s window mss).toNat)),(2,.bool false)] hA rfl (by kernel_rfl) (by kernel_rfl) ww) ?_
 refine kA [30] ?_
 refine kSS 30 2 0 (chkL (⟨nextOf s,s.data.extract (s.sent).toNat (s.sent + chunkN s window mss).toNat,false⟩ : Chk)) rfl ?_
 refine kZ ?_
 refine kS ?_
 refine kQ ?_
 refine kRS 4 [6,11,64] [(6,.p 1 0),(11,.p 2 0),(64,.v (.bool ((s.data.extract (s.sent).toNat (s.sent + chunkN s window mss).toNat).toList == (⟨#[]⟩ : ByteArray).toList)))] ?_
 refine xl_eqS (t' := [(6,.p 1 0),(11,.p 2 0),(64,.v (.bool (chunkN s window mss == 0)))]) (by rw [show ((s.data.extract (s.sent).toNat (s.sent + chunkN s window mss).toNat).toList == (⟨#[]⟩ : ByteArray).toList) = (chunkN s window mss == 0) from hte]) ?_
 refine kP 64 (chunkN s window mss == 0) (fun h19 => ?_) (fun h19 => ?_)
 have h19p := eqT h19
 refine kED [6,11,68] [(68,.v (.bool true))] ?_
 refine kT ?_
 refine kQ ?_
 refine kOS 0 [6] [(6,.p 1 0)] (.agg (chkL (⟨0,(⟨#[]⟩ : ByteArray),false⟩ : Chk)).toArray) rfl (fun _ _ _ ww hr => act_build [] hr.1 rfl (by kernel_rfl) (by kernel_rfl) ww) ?_
 refine kED [6,7] [(7,.v (.bool false))] ?_
 refine kR ?_
 have hmod : nextChunk s window mss = ((⟨0,(⟨#[]⟩ : ByteArray),false⟩),false) := by first | rfl | (simp [nextChunk,zeroChk,chunkFin, *]; done) | (simp [nextChunk,zeroChk,chunkFin, *]; omega) | grind [nextChunk,zeroChk,chunkFin]
 exact ⟨[.agg (chkL (⟨0,(⟨#[]⟩ : ByteArray),false⟩ : Chk)).toArray,.bool false],by kernel_rfl,fun w' hb hf => by rw [hmod]; exact ⟨rfl,hb⟩⟩
 have h19p := eqF h19
 refine kED [6,11,68] [(68,.v (.bool false))] ?_
 refine kN ?_
 refine kK ?_
 refine kQ ?_
 refine kEU [6,7] [(7,.v (.bool true))] 1 ⟨89,chkL (⟨nextOf s,s.data.extract (s.sent).toNat (s.sent + chunkN s window mss).toNat,false⟩ : Chk)⟩ ?_
 refine kR ?_
 have hmod : nextChunk s window mss = ((⟨nextOf s,s.data.extract (s.sent).toNat (s.sent + chunkN s window mss).toNat,false⟩),true) := by first | rfl | (simp [nextChunk,zeroChk,chunkFin, *]; done) | (simp [nextChunk,zeroChk,chunkFin, *]; omega) | grind [nextChunk,zeroChk,chunkFin]
 exact ⟨[.agg (chkL (⟨nextOf s,s.data.extract (s.sent).toNat (s.sent + chunkN s window mss).toNat,false⟩ : Chk)).toArray,.bool true],by kernel_rfl,fun w' hb hf => by rw [hmod]; exact ⟨rfl,hb⟩⟩
 have h13n := not_f h13
 refine kTS [13,14,15,16,17,18,19,20,21,22,23,24,25,26,27] [59,33,11,36,6] 2 [(59,.v (.bool false)),(33,.v (.int .i64 (nextOf s))),(11,.p 2 0),(36,.v (.string (s.data.extract (s.sent).toNat (s.sent + chunkN s window mss).toNat))),(6,.p 1 0)] ?_
 refine kX 28 (.agg (chkL (⟨nextOf s,s.data.extract (s.sent).toNat (s.sent + chunkN s window mss).toNat,false⟩ : Chk)).toArray) rfl (fun _ _ ww hA => act_build [(0,.int .i64 (nextOf s)),(1,.string (s.data.extract (s.sent).toNat (s.sent + chunkN s window mss).toNat)),(2,.bool false)] hA rfl (by kernel_rfl) (by kernel_rfl) ww) ?_
 refine kA [30] ?_
 refine kSS 30 2 0 (chkL (⟨nextOf s,s.data.extract (s.sent).toNat (s.sent + chunkN s window mss).toNat,false⟩ : Chk)) rfl ?_
 refine kZ ?_
 refine kS ?_
 refine kQ ?_
 refine kRS 4 [6,11,64] [(6,.p 1 0),(11,.p 2 0),(64,.v (.bool ((s.data.extract (s.sent).toNat (s.sent + chunkN s window mss).toNat).toList == (⟨#[]⟩ : ByteArray).toList)))] ?_
 refine xl_eqS (t' := [(6,.p 1 0),(11,.p 2 0),(64,.v (.bool (chunkN s window mss == 0)))]) (by rw [show ((s.data.extract (s.sent).toNat (s.sent + chunkN s window mss).toNat).toList == (⟨#[]⟩ : ByteArray).toList) = (chunkN s window mss == 0) from hte]) ?_
 refine kP 64 (chunkN s window mss == 0) (fun h20 => ?_) (fun h20 => ?_)
 have h20p := eqT h20
 refine kED [6,11,68] [(68,.v (.bool true))] ?_
 refine kT ?_
 refine kQ ?_
 refine kOS 0 [6] [(6,.p 1 0)] (.agg (chkL (⟨0,(⟨#[]⟩ : ByteArray),false⟩ : Chk)).toArray) rfl (fun _ _ _ ww hr => act_build [] hr.1 rfl (by kernel_rfl) (by kernel_rfl) ww) ?_
 refine kED [6,7] [(7,.v (.bool false))] ?_
 refine kR ?_
 have hmod : nextChunk s window mss = ((⟨0,(⟨#[]⟩ : ByteArray),false⟩),false) := by first | rfl | (simp [nextChunk,zeroChk,chunkFin, *]; done) | (simp [nextChunk,zeroChk,chunkFin, *]; omega) | grind [nextChunk,zeroChk,chunkFin]
 exact ⟨[.agg (chkL (⟨0,(⟨#[]⟩ : ByteArray),false⟩ : Chk)).toArray,.bool false],by kernel_rfl,fun w' hb hf => by rw [hmod]; exact ⟨rfl,hb⟩⟩
 have h20p := eqF h20
 refine kED [6,11,68] [(68,.v (.bool false))] ?_
 refine kN ?_
 refine kK ?_
 refine kQ ?_
 refine kEU [6,7] [(7,.v (.bool true))] 1 ⟨89,chkL (⟨nextOf s,s.data.extract (s.sent).toNat (s.sent + chunkN s window mss).toNat,false⟩ : Chk)⟩ ?_
 refine kR ?_
 have hmod : nextChunk s window mss = ((⟨nextOf s,s.data.extract (s.sent).toNat (s.sent + chunkN s window mss).toNat,false⟩),true) := by first | rfl | (simp [nextChunk,zeroChk,chunkFin, *]; done) | (simp [nextChunk,zeroChk,chunkFin, *]; omega) | grind [nextChunk,zeroChk,chunkFin]
 exact ⟨[.agg (chkL (⟨nextOf s,s.data.extract (s.sent).toNat (s.sent + chunkN s window mss).toNat,false⟩ : Chk)).toArray,.bool true],by kernel_rfl,fun w' hb hf => by rw [hmod]; exact ⟨rfl,hb⟩⟩
 refine kTS [8,9,10,11,12,13,14,15,16,17,18,19,20,21,22,23,24,25,26,27] [59,33,11,36,6] 2 [(59,.v (.bool false)),(33,.v (.int .i64 (nextOf s))),(11,.p 2 0),(36,.v (.string (s.data.extract (s.sent).toNat (s.sent + chunkN s window mss).toNat))),(6,.p 1 0)] ?_
 refine kX 28 (.agg (chkL (⟨nextOf s,s.data.extract (s.sent).toNat (s.sent + chunkN s window mss).toNat,false⟩ : Chk)).toArray) rfl (fun _ _ ww hA => act_build [(0,.int .i64 (nextOf s)),(1,.string (s.data.extract (s.sent).toNat (s.sent + chunkN s window mss).toNat)),(2,.bool false)] hA rfl (by kernel_rfl) (by kernel_rfl) ww) ?_
 refine kA [30] ?_
 refine kSS 30 2 0 (chkL (⟨nextOf s,s.data.extract (s.sent).toNat (s.sent + chunkN s window mss).toNat,false⟩ : Chk)) rfl ?_
 refine kZ ?_
 refine kS ?_
 refine kQ ?_
 refine kRS 4 [6,11,64] [(6,.p 1 0),(11,.p 2 0),(64,.v (.bool ((s.data.extract (s.sent).toNat (s.sent + chunkN s window mss).toNat).toList == (⟨#[]⟩ : ByteArray).toList)))] ?_
 refine xl_eqS (t' := [(6,.p 1 0),(11,.p 2 0),(64,.v (.bool (chunkN s window mss == 0)))]) (by rw [show ((s.data.extract (s.sent).toNat (s.sent + chunkN s window mss).toNat).toList == (⟨#[]⟩ : ByteArray).toList) = (chunkN s window mss == 0) from hte]) ?_
 refine kP 64 (chunkN s window mss == 0) (fun h21 => ?_) (fun h21 => ?_)
 have h21p := eqT h21
 refine kED [6,11,68] [(68,.v (.bool true))] ?_
 refine kT ?_
 refine kQ ?_
 refine kOS 0 [6] [(6,.p 1 0)] (.agg (chkL (⟨0,(⟨#[]⟩ : ByteArray),false⟩ : Chk)).toArray) rfl (fun _ _ _ ww hr => act_build [] hr.1 rfl (by kernel_rfl) (by kernel_rfl) ww) ?_
 refine kED [6,7] [(7,.v (.bool false))] ?_
 refine kR ?_
 have hmod : nextChunk s window mss = ((⟨0,(⟨#[]⟩ : ByteArray),false⟩),false) := by first | rfl | (simp [nextChunk,zeroChk,chunkFin, *]; done) | (simp [nextChunk,zeroChk,chunkFin, *]; omega) | grind [nextChunk,zeroChk,chunkFin]
 exact ⟨[.agg (chkL (⟨0,(⟨#[]⟩ : ByteArray),false⟩ : Chk)).toArray,.bool false],by kernel_rfl,fun w' hb hf => by rw [hmod]; exact ⟨rfl,hb⟩⟩
 have h21p := eqF h21
 refine kED [6,11,68] [(68,.v (.bool false))] ?_
 refine kN ?_
 refine kK ?_
 refine kQ ?_
 refine kEU [6,7] [(7,.v (.bool true))] 1 ⟨89,chkL (⟨nextOf s,s.data.extract (s.sent).toNat (s.sent + chunkN s window mss).toNat,false⟩ : Chk)⟩ ?_
 refine kR ?_
 have hmod : nextChunk s window mss = ((⟨nextOf s,s.data.extract (s.sent).toNat (s.sent + chunkN s window mss).toNat,false⟩),true) := by first | rfl | (simp [nextChunk,zeroChk,chunkFin, *]; done) | (simp [nextChunk,zeroChk,chunkFin, *]; omega) | grind [nextChunk,zeroChk,chunkFin]
 exact ⟨[.agg (chkL (⟨nextOf s,s.data.extract (s.sent).toNat (s.sent + chunkN s window mss).toNat,false⟩ : Chk)).toArray,.bool true],by kernel_rfl,fun w' hb hf => by rw [hmod]; exact ⟨rfl,hb⟩⟩
theorem yiSentOff_c (s : Snd) (c : Chk) (w : World)  : Calls Tryz.prog 90 #[.agg (sndL s).toArray, .agg (chkL c).toArray] w fun e w' => e = .returned (.agg (sndL (sentOff s c)).toArray) ∧ Below w.heap.size w w' := by
 have hsf := sentS_fin s c
 refine x_calls (args := [.agg (sndL s).toArray,.agg (chkL c).toArray]) (fn := Tryz.f90) [] Tryz.func90 rfl Tryz.ntmps90 rfl (by simp) ?_
 refine kQ ?_
 refine kEF [2,3,4] ⟨[(2,.p 0 0),(3,.p 1 0),(4,.p 2 0)],[⟨27,sndL s⟩,⟨89,chkL c⟩,⟨27,sndZ⟩],[],[]⟩ ?_
 refine kQ ?_
 refine kEF [2,3,4,5] ⟨[(2,.p 0 0),(3,.p 1 0),(4,.p 2 0),(5,.p 3 0)],[⟨27,sndL s⟩,⟨89,chkL c⟩,⟨27,sndZ⟩,⟨27,sndL s⟩],[],[]⟩ ?_
 refine kQ ?_
 refine kEF [2,3,4,5] ⟨[(2,.p 0 0),(3,.p 1 0),(4,.p 2 0),(5,.p 3 0)],[⟨27,sndL s⟩,⟨89,chkL c⟩,⟨27,sndZ⟩,⟨27,sndL { s with sent := IntKind.i64.wrap (s.sent + (c.text.size : Int)) }⟩],[],[]⟩ ?_
 refine kS ?_
 refine xw_join ⟨[(2,.p 0 0),(3,.p 1 0),(4,.p 2 0),(5,.p 3 0)],[⟨27,sndL s⟩,⟨89,chkL c⟩,⟨27,sndZ⟩,⟨27,sndL { s with sent := IntKind.i64.wrap (s.sent + (c.text.size : Int)),finSent := s.finSent || c.fin }⟩],[],[]⟩ ?_ ?_
 refine kG ?_
 refine kRS 3 [2,3,4,5,16] [(2,.p 0 0),(3,.p 1 0),(4,.p 2 0),(5,.p 3 0),(16,.v (.bool s.finSent))] ?_
 refine kP 16 (s.finSent) (fun h1 => ?_) (fun h1 => ?_)
 refine kEF [2,3,4,5] ⟨[(2,.p 0 0),(3,.p 1 0),(4,.p 2 0),(5,.p 3 0)],[⟨27,sndL s⟩,⟨89,chkL c⟩,⟨27,sndZ⟩,⟨27,sndL { s with sent := IntKind.i64.wrap (s.sent + (c.text.size : Int)),finSent := true }⟩],[],[]⟩ ?_
 show Wk _ _
 try rw [h1]
 exact kF 4 0 [2,3,4,5]
 refine kEF [2,3,4,5] ⟨[(2,.p 0 0),(3,.p 1 0),(4,.p 2 0),(5,.p 3 0)],[⟨27,sndL s⟩,⟨89,chkL c⟩,⟨27,sndZ⟩,⟨27,sndL { s with sent := IntKind.i64.wrap (s.sent + (c.text.size : Int)),finSent := c.fin }⟩],[],[]⟩ ?_
 show Wk _ _
 try rw [h1]
 exact kF 4 0 [2,3,4,5]
 refine kS ?_
 refine kS ?_
 refine xw_join ⟨[(2,.p 0 0),(4,.p 2 0),(5,.p 3 0),(41,.v (.bool ((!(senderOk s)) || ((!(senderOk ({ s with sent := IntKind.i64.wrap (s.sent + (c.text.size : Int)),finSent := s.finSent || c.fin }))) || (c.fin && ((!s.fin) || s.done))))))],[⟨27,sndL s⟩,⟨89,chkL c⟩,⟨27,sndZ⟩,⟨27,sndL { s with sent := IntKind.i64.wrap (s.sent + (c.text.size : Int)),finSent := s.finSent || c.fin }⟩],[],[]⟩ ?_ ?_
 refine kG ?_
 refine kCS 1 [2,3,4,5,21] [(2,.p 0 0),(3,.p 1 0),(4,.p 2 0),(5,.p 3 0),(21,.v (.agg (sndL s).toArray))] 81 [.agg (sndL s).toArray] (some 22) rfl (xc_b fun ww hf => iSenderOk_c s.una s.data s.sent s.fin s.finSent s.done ww ) ?_
 intro _
 refine kRS 2 [2,3,4,5,24] [(2,.p 0 0),(3,.p 1 0),(4,.p 2 0),(5,.p 3 0),(24,.v (.bool (!(senderOk s))))] ?_
 refine kP 24 (!(senderOk s)) (fun h2 => ?_) (fun h2 => ?_)
 have h2n := not_t h2
 refine kES [2,4,5,41] [(2,.p 0 0),(4,.p 2 0),(5,.p 3 0),(41,.v (.bool true))] ?_
 show Wk _ _
 try rw [h2]
 exact kF 4 0 [2,4,5,41]
 have h2n := not_f h2
 have h2nb := senderOk_bd (s := s) (by simpa using h2n)
 obtain ⟨h2nb0,h2nb1,h2nb2,h2nb3,h2nb4,h2nb5,h2nb6,h2nb7,h2nb8,h2nb9,h2nb10⟩ := h2nb
 refine kCS 1 [2,3,4,5,24,25] [(2,.p 0 0),(3,.p 1 0),(4,.p 2 0),(5,.p 3 0),(24,.v (.bool false)),(25,.v (.agg (sndL { s with sent := IntKind.i64.wrap (s.sent + (c.text.size : Int)),finSent := s.finSent || c.fin }).toArray))] 81 [.agg (sndL { s with sent := IntKind.i64.wrap (s.sent + (c.text.size : Int)),finSent := s.finSent || c.fin }).toArray] (some 26) rfl (xc_b fun ww hf => iSenderOk_c s.una s.data (IntKind.i64.wrap (s.sent + (c.text.size : Int))) s.fin (s.finSent || c.fin) s.done ww ) ?_
 intro _
 refine kRS 3 [2,3,4,5,29] [(2,.p 0 0),(3,.p 1 0),(4,.p 2 0),(5,.p 3 0),(29,.v (.bool (!(senderOk ({ s with sent := IntKind.i64.wrap (s.sent + (c.text.size : Int)),finSent := s.finSent || c.fin })))))] ?_
 refine kP 29 (!(senderOk ({ s with sent := IntKind.i64.wrap (s.sent + (c.text.size : Int)),finSent := s.finSent || c.fin }))) (fun h3 => ?_) (fun h3 => ?_)
 have h3n := not_t h3
 refine kES [2,4,5,41] [(2,.p 0 0),(4,.p 2 0),(5,.p 3 0),(41,.v (.bool true))] ?_
 show Wk _ _
 try rw [h2]
 try rw [h3]
 exact kF 4 0 [2,4,5,41]
 have h3n := not_f h3
 have h3nb := senderOk_bd (s := ({ s with sent := IntKind.i64.wrap (s.sent + (c.text.size : Int)),finSent := s.finSent || c.fin })) (by simpa using h3n)
 obtain ⟨h3nb0,h3nb1,h3nb2,h3nb3,h3nb4,h3nb5,h3nb6,h3nb7,h3nb8,h3nb9,h3nb10⟩ := h3nb
 refine kRS 3 [2,4,5,29,32] [(2,.p 0 0),(4,.p 2 0),(5,.p 3 0),(29,.v (.bool false)),(32,.v (.bool c.fin))] ?_
 refine kP 32 (c.fin) (fun h4 => ?_) (fun h4 => ?_)
 refine kRS 4 [2,4,5,29,32,36] [(2,.p 0 0),(4,.p 2 0),(5,.p 3 0),(29,.v (.bool false)),(32,.v (.bool true)),(36,.v (.bool (!s.fin)))] ?_
 refine kP 36 (!s.fin) (fun h5 => ?_) (fun h5 => ?_)
 have h5n := not_t h5
 refine kES [2,4,5,41] [(2,.p 0 0),(4,.p 2 0),(5,.p 3 0),(41,.v (.bool true))] ?_
 show Wk _ _
 try rw [h2]
 try rw [h3]
 try rw [h4]
 try rw [h5]
 exact kF 4 0 [2,4,5,41]
 have h5n := not_f h5
 refine kES [2,4,5,41] [(2,.p 0 0),(4,.p 2 0),(5,.p 3 0),(41,.v (.bool s.done))] ?_
 show Wk _ _
 try rw [h2]
 try rw [h3]
 try rw [h4]
 try rw [h5]
 exact kF 4 0 [2,4,5,41]
 refine kES [2,4,5,41] [(2,.p 0 0),(4,.p 2 0),(5,.p 3 0),(41,.v (.bool false))] ?_
 show Wk _ _
 try rw [h2]
 try rw [h3]
 try rw [h4]
 exact kF 4 0 [2,4,5,41]
 refine kC ((!(senderOk s)) || ((!(senderOk ({ s with sent := IntKind.i64.wrap (s.sent + (c.text.size : Int)),finSent := s.finSent || c.fin }))) || (c.fin && ((!s.fin) || s.done)))) (fun h6 => ?_) (fun h6 => ?_)
 refine kQ ?_
 refine kEF [4] ⟨[(4,.p 2 0)],[⟨27,sndL s⟩,⟨89,chkL c⟩,⟨27,sndL s⟩,⟨27,sndL { s with sent := IntKind.i64.wrap (s.sent + (c.text.size : Int)),finSent := s.finSent || c.fin }⟩],[],[]⟩ ?_
 refine kR ?_
 have hmod : sentOff s c = s := by first | rfl | (simp [sentOff,sentS, *]; done) | grind [sentOff,sentS]
 exact ⟨[.agg (sndL s).toArray],by kernel_rfl,fun w' hb hf => by rw [hmod]; exact ⟨rfl,hb⟩⟩
 have h6l := or_l h6
 have h6ln := not_f h6l
 have h6lnb := senderOk_bd (s := s) (by simpa using h6ln)
 obtain ⟨h6lnb0,h6lnb1,h6lnb2,h6lnb3,h6lnb4,h6lnb5,h6lnb6,h6lnb7,h6lnb8,h6lnb9,h6lnb10⟩ := h6lnb
 have h6r := or_r h6
 have h6rl := or_l h6r
 have h6rln := not_f h6rl
 have h6rlnb := senderOk_bd (s := ({ s with sent := IntKind.i64.wrap (s.sent + (c.text.size : Int)),finSent := s.finSent || c.fin })) (by simpa using h6rln)
 obtain ⟨h6rlnb0,h6rlnb1,h6rlnb2,h6rlnb3,h6rlnb4,h6rlnb5,h6rlnb6,h6rlnb7,h6rlnb8,h6rlnb9,h6rlnb10⟩ := h6rlnb
 have h6rr := or_r h6r
 refine kK ?_
 refine kQ ?_
 refine kEF [4] ⟨[(4,.p 2 0)],[⟨27,sndL s⟩,⟨89,chkL c⟩,⟨27,sndL { s with sent := IntKind.i64.wrap (s.sent + (c.text.size : Int)),finSent := s.finSent || c.fin }⟩,⟨27,sndL { s with sent := IntKind.i64.wrap (s.sent + (c.text.size : Int)),finSent := s.finSent || c.fin }⟩],[],[]⟩ ?_
 refine kR ?_
 have hmod : sentOff s c = ({ s with sent := IntKind.i64.wrap (s.sent + (c.text.size : Int)),finSent := s.finSent || c.fin }) := by first | rfl | (simp [sentOff,sentS, *]; done) | grind [sentOff,sentS]
 exact ⟨[.agg (sndL { s with sent := IntKind.i64.wrap (s.sent + (c.text.size : Int)),finSent := s.finSent || c.fin }).toArray],by kernel_rfl,fun w' hb hf => by rw [hmod]; exact ⟨rfl,hb⟩⟩
theorem ysPump_c (c : Con) (c_r_heldV : Value) (window : Int) (w : World) (hl_c_r_heldV : Sl w c_r_heldV 2 (c.r.held.map pceCells)) (hkn : c.r.held.length ≤ 1048576)(hm : ∀ p ∈ c.r.held, p.text.size ≤ 1048576) (hsz : c.r.data.size ≤ 4611686018427387904) (hwi : -9223372036854775808 ≤ window ∧ window ≤ 9223372036854775807) (B : Nat) (hB : B ≤ w.heap.size) : Calls Tryz.prog 37 #[.agg (conL c c_r_heldV).toArray, .int .i64 window] w fun e w' => XRs w w' e (α := (Option Addr × Nat) × (Option Addr × Nat)) (fun y => .tuple #[.agg (conL (pump c window).1 (.slice y.1.1 ((pump c window).1.r.held.length) y.1.2)).toArray, .slice y.2.1 ((pump c window).2.length) y.2.2]) (fun y => [ownF B (.slice y.1.1 ((pump c window).1.r.held.length) y.1.2) 2 ((pump c window).1.r.held.map pceCells), rowF B 36 13 (.slice y.2.1 ((pump c window).2.length) y.2.2) ((pump c window).2.map segCells)]) := by
 obtain ⟨Acrh,Ccrh,hvcrh⟩ := hl_c_r_heldV.form
 rw [List.length_map] at hvcrh; subst hvcrh
 have hncrh := hl_c_r_heldV.len; rw [List.length_map] at hncrh
 have hqcrh := Sl.capLe hl_c_r_heldV
 refine x_callsA (args := [.agg (conL c (.slice Acrh c.r.held.length Ccrh)).toArray,.int .i64 window]) (fn := Tryz.f37) [slF (.slice Acrh c.r.held.length Ccrh) 2 (c.r.held.map pceCells)] Tryz.func37 rfl Tryz.ntmps37 rfl (by simp only [List.mem_cons,List.not_mem_nil,or_false,forall_eq_or_imp,forall_eq]; exact ⟨rfl,hl_c_r_heldV⟩) ?_
 refine kQ ?_
 refine kEF [1,2,4] ⟨[(1,.v (.int .i64 window)),(2,.p 0 0),(4,.p 1 0)],[⟨34,conL c (.slice Acrh c.r.held.length Ccrh)⟩,⟨34,conZ⟩],[],[slF (.slice Acrh c.r.held.length Ccrh) 2 (c.r.held.map pceCells)]⟩ ?_
 refine kQ ?_
 refine kCD 1 [1,2,4,10] [(10,.v (.agg (conL c (.slice Acrh c.r.held.length Ccrh)).toArray))] 70 [.agg (conL c (.slice Acrh c.r.held.length Ccrh)).toArray] (some 11) rfl (xc_r fun ww hw hf => yl19Copy_c c (.slice Acrh c.r.held.length Ccrh) ww (hf _ m0) (by assumption) w.heap.size hw) ?_
 rintro ⟨v1a,v1c⟩
 refine kEU [1,2,4] [] 0 ⟨34,conL c (.slice v1a c.r.held.length v1c)⟩ ?_
 refine kQ ?_
 refine kHD 0 [1,2,4] [] rfl (hv_build (e := 36) (K := 13) (bytes := 104) [] rfl (by kernel_rfl) (by kernel_rfl) (by kernel_rfl) (by kernel_rfl) (by kernel_rfl) (rs := ([] : List Seg).map segCells) rfl) ?_
 intro g2
 refine kED [1,2,4,6] [(6,.v (.slice (some ⟨g2,0,none⟩) 0 0))] ?_
 refine kS ?_
 refine kQ ?_
 refine kCD 1 [1,2,4,6,13] [(13,.v (.agg (conL c (.slice v1a c.r.held.length v1c)).toArray))] 23 [.agg (conL c (.slice v1a c.r.held.length v1c)).toArray] (some 14) rfl (xc_b fun ww hf => ysConnOk_c c (.slice v1a c.r.held.length v1c) ww (Own.sl (hf _ m1)) (by assumption) (by omega)) ?_
 intro _
 refine kRD 2 [1,2,4,6,16] [(16,.v (.bool (!(conOk c))))] ?_
 refine kP 16 (!(conOk c)) (fun h3 => ?_) (fun h3 => ?_)
 have h3n := not_t h3
 refine kED [1,2,4,6,25] [(25,.v (.bool true))] ?_
 refine kT ?_
 refine kQ ?_
 refine kEU [4,5] [(5,.v (.slice (some ⟨g2,0,none⟩) 0 0))] 1 ⟨34,conL c (.slice v1a c.r.held.length v1c)⟩ ?_
 refine kR ?_
 have hmod : pump c window = (c,([] : List Seg)) := by first | (simp [pump, *]; done) | exact pump_yes hok hs8 hs7 hS hL (by first | exact HT.symm | (unfold tmr; rw [show L.isEmpty = decide (L.length = 0) from by cases L <;> rfl]; simp only [decide_eq_true_eq]; split <;> (try split) <;> omega))
 exact ⟨[.agg (conL c (.slice v1a c.r.held.length v1c)).toArray,.slice (some ⟨g2,0,none⟩) 0 0],by kernel_rfl,fun w' hb hf ha => by rw [hmod]; exact xo2 ((v1a,v1c),(((some ⟨g2,0,none⟩) : Option Addr),0)) rfl rfl (pO (hf _ m1) hB) (pW (hf _ m0) hB) (Apart.sub2 ha (i := 1) (j := 0) rfl rfl (by decide) rfl (fun b h => h) (fun b h => h)) hb⟩
 have h3n := not_f h3
 refine kRD 5 [1,2,4,6,21] [(21,.v (.bool (c.state == 8)))] ?_
 refine kP 21 (c.state == 8) (fun h4 => ?_) (fun h4 => ?_)
 have h4p := eqT h4
 refine kED [1,2,4,6,25] [(25,.v (.bool true))] ?_
 refine kT ?_
 refine kQ ?_
 refine kEU [4,5] [(5,.v (.slice (some ⟨g2,0,none⟩) 0 0))] 1 ⟨34,conL c (.slice v1a c.r.held.length v1c)⟩ ?_
 refine kR ?_
 have hmod : pump c window = (c,([] : List Seg)) := by first | (simp [pump, *]; done) | exact pump_yes hok hs8 hs7 hS hL (by first | exact HT.symm | (unfold tmr; rw [show L.isEmpty = decide (L.length = 0) from by cases L <;> rfl]; simp only [decide_eq_true_eq]; split <;> (try split) <;> omega))
 exact ⟨[.agg (conL c (.slice v1a c.r.held.length v1c)).toArray,.slice (some ⟨g2,0,none⟩) 0 0],by kernel_rfl,fun w' hb hf ha => by rw [hmod]; exact xo2 ((v1a,v1c),(((some ⟨g2,0,none⟩) : Option Addr),0)) rfl rfl (pO (hf _ m1) hB) (pW (hf _ m0) hB) (Apart.sub2 ha (i := 1) (j := 0) rfl rfl (by decide) rfl (fun b h => h) (fun b h => h)) hb⟩
 have h4p := eqF h4
 refine kED [1,2,4,6,25] [(25,.v (.bool (c.state == 7)))] ?_
 refine kC (c.state == 7) (fun h5 => ?_) (fun h5 => ?_)
 have h5p := eqT h5
 refine kQ ?_
 refine kEU [4,5] [(5,.v (.slice (some ⟨g2,0,none⟩) 0 0))] 1 ⟨34,conL c (.slice v1a c.r.held.length v1c)⟩ ?_
 refine kR ?_
 have hmod : pump c window = (c,([] : List Seg)) := by first | (simp [pump, *]; done) | exact pump_yes hok hs8 hs7 hS hL (by first | exact HT.symm | (unfold tmr; rw [show L.isEmpty = decide (L.length = 0) from by cases L <;> rfl]; simp only [decide_eq_true_eq]; split <;> (try split) <;> omega))
 exact ⟨[.agg (conL c (.slice v1a c.r.held.length v1c)).toArray,.slice (some ⟨g2,0,none⟩) 0 0],by kernel_rfl,fun w' hb hf ha => by rw [hmod]; exact xo2 ((v1a,v1c),(((some ⟨g2,0,none⟩) : Option Addr),0)) rfl rfl (pO (hf _ m1) hB) (pW (hf _ m0) hB) (Apart.sub2 ha (i := 1) (j := 0) rfl rfl (by decide) rfl (fun b h => h) (fun b h => h)) hb⟩
 have h5p := eqF h5
 refine kK ?_
 refine xw_block ?_
 have hok : conOk c = true := by simp_all
 have hs8 : ¬ c.state = 8 := by simp_all
 have hs7 : ¬ c.state = 7 := by simp_all
 refine xw_loopW (α := {x : Snd × List Seg × Int × Option Addr × Nat // (fun (s : Snd) (L : List Seg) (t : Int) (A : Option Addr) (cap : Nat) => (pumpC c.s window (mssO c.o)).1 = (pumpC s window (mssO c.o)).1 ∧ (pumpC c.s window (mssO c.o)).2.map (segOf c) = L ++ (pumpC s window (mssO c.o)).2.map (segOf c) ∧ L.length + meas s ≤ 49 ∧ t = tmr c L) x.1 x.2.1 x.2.2.1 x.2.2.2.1 x.2.2.2.2}) (fun x => (fun (s : Snd) (L : List Seg) (t : Int) (A : Option Addr) (cap : Nat) => (⟨[(1,.v (.int .i64 window)),(2,.p 0 0),(4,.p 1 0),(6,.v (.slice A L.length cap))],[⟨34,conL { c with s := s,timer := t } (.slice v1a c.r.held.length v1c)⟩,⟨34,conZ⟩],[],[rowF w.heap.size 36 13 (.slice A L.length cap) (L.map segCells),ownF w.heap.size (.slice v1a c.r.held.length v1c) 2 (c.r.held.map pceCells),slF (.slice Acrh c.r.held.length Ccrh) 2 (c.r.held.map pceCells)]⟩ : St)) x.1.1 x.1.2.1 x.1.2.2.1 x.1.2.2.2.1 x.1.2.2.2.2) (fun x => (fun (s : Snd) (L : List Seg) (t : Int) (A : Option Addr) (cap : Nat) => meas s) x.1.1 x.1.2.1 x.1.2.2.1 x.1.2.2.2.1 x.1.2.2.2.2) ⟨(c.s,([] : List Seg),c.timer,(some ⟨g2,0,none⟩),0),⟨rfl,rfl,(by have := meas_le (conOk_s hok); simp only [List.length_nil]; omega),rfl⟩⟩ ((wk_pick [0,1,2] [rowF w.heap.size 36 13 (.slice (some ⟨g2,0,none⟩) 0 0) (([] : List Seg).map segCells),ownF w.heap.size (.slice v1a c.r.held.length v1c) 2 (c.r.held.map pceCells),slF (.slice Acrh c.r.held.length Ccrh) 2 (c.r.held.map pceCells)] (by kernel_rfl) (by kernel_rfl)).trans <| kF 2 0 [1,2,4,6]) ?_
 rintro ⟨⟨s,L,t,A,cap⟩,HS,HL,HR,HT⟩
 try dsimp only
 try dsimp only at HS HL HR HT
 refine xw_block ?_
 refine kS ?_
 refine xw_join ⟨[(1,.v (.int .i64 window)),(2,.p 0 0),(4,.p 1 0),(6,.v (.slice A L.length cap)),(7,.p 2 0),(8,.v (.bool ((nextChunk s window (mssO c.o)).2)))],[⟨34,conL { c with s := s,timer := t } (.slice v1a c.r.held.length v1c)⟩,⟨34,conZ⟩,⟨89,chkL (nextChunk s window (mssO c.o)).1⟩],[],[rowF w.heap.size 36 13 (.slice A L.length cap) (L.map segCells),ownF w.heap.size (.slice v1a c.r.held.length v1c) 2 (c.r.held.map pceCells),slF (.slice Acrh c.r.held.length Ccrh) 2 (c.r.held.map pceCells)]⟩ ?_ ?_
 refine xe_region [] (by kernel_rfl) (fun ρ σ => ?_)
 refine kTD [0,1,2,3] [32,31,30,1,2,4,6] 8 [(32,.v (.agg (conL { c with s := s,timer := t } (.slice v1a c.r.held.length v1c)).toArray)),(31,.v (.int .i64 window)),(30,.v (.agg (sndL s).toArray))] ?_
 refine kA [4,9] ⟨?_,?_⟩
 refine kSC 4 92 [.agg (conL { c with s := s,timer := t } (.slice v1a c.r.held.length v1c)).toArray] (some 33) rfl (xc_b fun ww hf => ysMssFor_c ({ c with s := s,timer := t }) (.slice v1a c.r.held.length v1c) ww ) ?_
 intro _
 refine kA [5,9] ⟨?_,?_⟩
 refine kSC 5 91 [.agg (sndL s).toArray,.int .i64 window,.int .i64 (mssO c.o)] (some 34) rfl (xc_b fun ww hf => ysNextChunk_c s window (mssO c.o) ww  (by first | omega | (rw [wrap_id (by omega) (by omega)]; omega))) ?_
 intro _
 refine kTD [6,7,8] [36,35,1,2,4,6] 3 [(36,.v (.bool ((nextChunk s window (mssO c.o)).2))),(35,.v (.agg (chkL (nextChunk s window (mssO c.o)).1).toArray))] ?_
 refine kA [9] ?_
 refine xs_box 9 ⟨89,chkL (⟨0,(⟨#[]⟩ : ByteArray),false⟩ : Chk)⟩ _ rfl (by kernel_rfl) (by kernel_rfl) (by kernel_rfl) (by kernel_rfl) rfl ?_
 refine kA [10] ?_
 refine kSS 10 2 0 (chkL (nextChunk s window (mssO c.o)).1) rfl ?_
 refine kTS [11] [8,7,1,2,4,6] 0 [(8,.v (.bool ((nextChunk s window (mssO c.o)).2))),(7,.p 2 0),(1,.v (.int .i64 window)),(2,.p 0 0),(4,.p 1 0),(6,.v (.slice A L.length cap))] ?_
 refine kZ ?_
 exact kF 3 0 [1,2,4,6,7,8]
 refine xs_box 9 ⟨89,chkL (⟨0,(⟨#[]⟩ : ByteArray),false⟩ : Chk)⟩ _ rfl (by kernel_rfl) (by kernel_rfl) (by kernel_rfl) (by kernel_rfl) rfl ?_
 refine kA [5] ?_
 refine kSC 5 91 [.agg (sndL s).toArray,.int .i64 window,.int .i64 (mssO c.o)] (some 34) rfl (xc_b fun ww hf => ysNextChunk_c s window (mssO c.o) ww  (by first | omega | (rw [wrap_id (by omega) (by omega)]; omega))) ?_
 intro _
 refine kTD [6,7,8] [36,35,7,1,2,4,6] 2 [(36,.v (.bool ((nextChunk s window (mssO c.o)).2))),(35,.v (.agg (chkL (nextChunk s window (mssO c.o)).1).toArray))] ?_
 refine kA [10] ?_
 refine kSS 10 2 0 (chkL (nextChunk s window (mssO c.o)).1) rfl ?_
 refine kTS [11] [8,7,1,2,4,6] 0 [(8,.v (.bool ((nextChunk s window (mssO c.o)).2))),(7,.p 2 0),(1,.v (.int .i64 window)),(2,.p 0 0),(4,.p 1 0),(6,.v (.slice A L.length cap))] ?_
 refine kZ ?_
 exact kF 3 0 [1,2,4,6,7,8]
 refine xs_box 9 ⟨89,chkL (⟨0,(⟨#[]⟩ : ByteArray),false⟩ : Chk)⟩ _ rfl (by kernel_rfl) (by kernel_rfl) (by kernel_rfl) (by kernel_rfl) rfl ?_
 refine kA [4] ?_
 refine kSC 4 92 [.agg (conL { c with s := s,timer := t } (.slice v1a c.r.held.length v1c)).toArray] (some 33) rfl (xc_b fun ww hf => ysMssFor_c ({ c with s := s,timer := t }) (.slice v1a c.r.held.length v1c) ww ) ?_
 intro _
 refine kA [5] ?_
 refine kSC 5 91 [.agg (sndL s).toArray,.int .i64 window,.int .i64 (mssO c.o)] (some 34) rfl (xc_b fun ww hf => ysNextChunk_c s window (mssO c.o) ww  (by first | omega | (rw [wrap_id (by omega) (by omega)]; omega))) ?_
 intro _
 refine kTD [6,7,8] [36,35,7,1,2,4,6] 2 [(36,.v (.bool ((nextChunk s window (mssO c.o)).2))),(35,.v (.agg (chkL (nextChunk s window (mssO c.o)).1).toArray))] ?_
 refine kA [10] ?_
 refine kSS 10 2 0 (chkL (nextChunk s window (mssO c.o)).1) rfl ?_
 refine kTS [11] [8,7,1,2,4,6] 0 [(8,.v (.bool ((nextChunk s window (mssO c.o)).2))),(7,.p 2 0),(1,.v (.int .i64 window)),(2,.p 0 0),(4,.p 1 0),(6,.v (.slice A L.length cap))] ?_
 refine kZ ?_
 exact kF 3 0 [1,2,4,6,7,8]
 refine kS ?_
 refine kQ ?_
 refine kED [1,2,4,6,7,38] [(38,.v (.bool (!((nextChunk s window (mssO c.o)).2))))] ?_
 refine kC (!((nextChunk s window (mssO c.o)).2)) (fun h6 => ?_) (fun h6 => ?_)
 have hno := not_t h6
 have hS := pumpS_end hno HS
 have hL := pumpL_end hno HL
 refine kQ ?_
 refine kEF [4,5] ⟨[(4,.p 1 0),(5,.v (.slice A L.length cap))],[⟨34,conL { c with s := s,timer := t } (.slice v1a c.r.held.length v1c)⟩,⟨34,conL { c with s := s,timer := t } (.slice v1a c.r.held.length v1c)⟩,⟨89,chkL (nextChunk s window (mssO c.o)).1⟩],[],[rowF w.heap.size 36 13 (.slice A L.length cap) (L.map segCells),ownF w.heap.size (.slice v1a c.r.held.length v1c) 2 (c.r.held.map pceCells),slF (.slice Acrh c.r.held.length Ccrh) 2 (c.r.held.map pceCells)]⟩ ?_
 refine kR ?_
 have hmod : pump c window = (({ c with s := s,timer := t }),L) := by first | (simp [pump, *]; done) | exact pump_yes hok hs8 hs7 hS hL (by first | exact HT.symm | (unfold tmr; rw [show L.isEmpty = decide (L.length = 0) from by cases L <;> rfl]; simp only [decide_eq_true_eq]; split <;> (try split) <;> omega))
 exact ⟨[.agg (conL { c with s := s,timer := t } (.slice v1a c.r.held.length v1c)).toArray,.slice A L.length cap],by kernel_rfl,fun w' hb hf ha => by rw [hmod]; exact xo2 ((v1a,v1c),(A,cap)) rfl rfl (pO (hf _ m1) hB) (pW (hf _ m0) hB) (Apart.sub2 ha (i := 1) (j := 0) rfl rfl (by decide) rfl (fun b h => h) (fun b h => h)) hb⟩
 have hyes := not_f h6
 refine kK ?_
 refine kQ ?_
 refine kCS 1 [1,2,4,6,7,41] [(1,.v (.int .i64 window)),(2,.p 0 0),(4,.p 1 0),(6,.v (.slice A L.length cap)),(7,.p 2 0),(41,.v (.agg (conL { c with s := s,timer := t } (.slice v1a c.r.held.length v1c)).toArray))] 72 [.agg (conL { c with s := s,timer := t } (.slice v1a c.r.held.length v1c)).toArray] (some 42) rfl (xc_b fun ww hf => sAckOf_c c.t.ip c.t.port c.t.my c.state s.una s.data s.sent s.fin s.finSent s.done c.r.next c.r.data c.r.held (.slice v1a c.r.held.length v1c) c.r.fin c.r.done c.window c.most c.o.mss c.o.scale c.o.sack c.o.stamp c.o.val c.o.echo t c.tries ww (by omega)) ?_
 intro _
 refine kEA [1,2,4,6,7,9] [(9,.p 3 0)] [⟨36,[.int .i64 c.t.my,.int .i64 c.t.port,.int .i64 (nextOf s),.int .i64 c.r.next,.int .i64 16,.int .i64 (windowOf c.r),.int .i64 0,.int .i64 (-1),.bool false,.bool false,.int .i64 0,.int .i64 0,.string (⟨#[]⟩ : ByteArray)]⟩] ?_
 refine kQ ?_
 refine kEU [1,2,4,6,7,9] [] 3 ⟨36,[.int .i64 c.t.my,.int .i64 c.t.port,.int .i64 ((nextChunk s window (mssO c.o)).1.seq),.int .i64 c.r.next,.int .i64 16,.int .i64 (windowOf c.r),.int .i64 0,.int .i64 (-1),.bool false,.bool false,.int .i64 0,.int .i64 0,.string (⟨#[]⟩ : ByteArray)]⟩ ?_
 refine kQ ?_
 refine kEU [1,2,4,6,7,9] [] 3 ⟨36,[.int .i64 c.t.my,.int .i64 c.t.port,.int .i64 ((nextChunk s window (mssO c.o)).1.seq),.int .i64 c.r.next,.int .i64 16,.int .i64 (windowOf c.r),.int .i64 0,.int .i64 (-1),.bool false,.bool false,.int .i64 0,.int .i64 0,.string ((nextChunk s window (mssO c.o)).1.text)]⟩ ?_
 refine kS ?_
 refine kQ ?_
 refine kED [1,2,4,6,7,9,51] [(51,.v (.bool (!(((nextChunk s window (mssO c.o)).1.text).toList == (⟨#[]⟩ : ByteArray).toList))))] ?_
 refine kC (!(((nextChunk s window (mssO c.o)).1.text).toList == (⟨#[]⟩ : ByteArray).toList)) (fun h7 => ?_) (fun h7 => ?_)
 have hT : (nextChunk s window (mssO c.o)).1.text.toList.isEmpty = false := by simpa [toList_lit0] using h7
 refine kG ?_
 refine kEU [1,2,4,6,7,9] [] 3 ⟨36,[.int .i64 c.t.my,.int .i64 c.t.port,.int .i64 ((nextChunk s window (mssO c.o)).1.seq),.int .i64 c.r.next,.int .i64 24,.int .i64 (windowOf c.r),.int .i64 0,.int .i64 (-1),.bool false,.bool false,.int .i64 0,.int .i64 0,.string ((nextChunk s window (mssO c.o)).1.text)]⟩ ?_
 refine kS ?_
 refine kQ ?_
 refine kED [1,2,4,6,7,9,57] [(57,.v (.bool ((nextChunk s window (mssO c.o)).1.fin)))] ?_
 refine kC ((nextChunk s window (mssO c.o)).1.fin) (fun h8 => ?_) (fun h8 => ?_)
 have hF := h8
 refine kG ?_
 refine kEU [1,2,4,6,7,9] [] 3 ⟨36,[.int .i64 c.t.my,.int .i64 c.t.port,.int .i64 ((nextChunk s window (mssO c.o)).1.seq),.int .i64 c.r.next,.int .i64 25,.int .i64 (windowOf c.r),.int .i64 0,.int .i64 (-1),.bool false,.bool false,.int .i64 0,.int .i64 0,.string ((nextChunk s window (mssO c.o)).1.text)]⟩ ?_
 refine kQ ?_
 refine kHD 2 [1,2,4,6,7,62,63] [(62,.v (.slice A L.length cap)),(63,.v (.agg #[.int .i64 c.t.my,.int .i64 c.t.port,.int .i64 ((nextChunk s window (mssO c.o)).1.seq),.int .i64 c.r.next,.int .i64 25,.int .i64 (windowOf c.r),.int .i64 0,.int .i64 (-1),.bool false,.bool false,.int .i64 0,.int .i64 0,.string ((nextChunk s window (mssO c.o)).1.text)]))] rfl (hv_build (e := 36) (K := 13) (bytes := 104) [.agg #[.int .i64 c.t.my,.int .i64 c.t.port,.int .i64 ((nextChunk s window (mssO c.o)).1.seq),.int .i64 c.r.next,.int .i64 25,.int .i64 (windowOf c.r),.int .i64 0,.int .i64 (-1),.bool false,.bool false,.int .i64 0,.int .i64 0,.string ((nextChunk s window (mssO c.o)).1.text)]] rfl (by kernel_rfl) (by kernel_rfl) (by kernel_rfl) (by kernel_rfl) (by kernel_rfl) (rs := ([⟨c.t.my,c.t.port,(nextChunk s window (mssO c.o)).1.seq,c.r.next,25,windowOf c.r,⟨0,(-1),false,false,0,0⟩,(nextChunk s window (mssO c.o)).1.text⟩] : List Seg).map segCells) rfl) ?_
 intro g9
 refine kHD 0 [1,2,4,6,7,62,64] [] rfl (hv_append (e := 36) (K := 13) (bytes := 104) (i := 1) (q := (L ++ ([⟨c.t.my,c.t.port,(nextChunk s window (mssO c.o)).1.seq,c.r.next,25,windowOf c.r,⟨0,(-1),false,false,0,0⟩,(nextChunk s window (mssO c.o)).1.text⟩] : List Seg)).length) (new := ([⟨c.t.my,c.t.port,(nextChunk s window (mssO c.o)).1.seq,c.r.next,25,windowOf c.r,⟨0,(-1),false,false,0,0⟩,(nextChunk s window (mssO c.o)).1.text⟩] : List Seg).map segCells) (rs' := (L ++ ([⟨c.t.my,c.t.port,(nextChunk s window (mssO c.o)).1.seq,c.r.next,25,windowOf c.r,⟨0,(-1),false,false,0,0⟩,(nextChunk s window (mssO c.o)).1.text⟩] : List Seg)).map segCells) rfl rfl rfl rfl (by kernel_rfl) (by kernel_rfl) (by kernel_rfl) rfl (by simp) (by rw [List.map_append]) (by simp) (fun ww hf => (rowF_sl (hf (rowF w.heap.size 36 13 (.slice (some ⟨g9,0,none⟩) 1 1) (([⟨c.t.my,c.t.port,(nextChunk s window (mssO c.o)).1.seq,c.r.next,25,windowOf c.r,⟨0,(-1),false,false,0,0⟩,(nextChunk s window (mssO c.o)).1.text⟩] : List Seg).map segCells)) (by simp)))) (by intro r hr; obtain ⟨x,hx,rfl⟩ := List.mem_map.1 hr; exact ⟨rfl,by simp [segCells,Value.oneCell']⟩) (by (try simp only [List.length_map,List.length_append,List.length_cons,List.length_nil,List.length_take,List.length_drop,maxLen]); omega) (by (try simp only [List.length_map,List.length_append,List.length_cons,List.length_nil,List.length_take,List.length_drop,maxLen]); omega)) ?_
 rintro ⟨v10a,v10c⟩
 refine kED [1,2,4,6,7] [(6,.v (.slice v10a ((L ++ ([⟨c.t.my,c.t.port,(nextChunk s window (mssO c.o)).1.seq,c.r.next,25,windowOf c.r,⟨0,(-1),false,false,0,0⟩,(nextChunk s window (mssO c.o)).1.text⟩] : List Seg)).length) v10c))] ?_
 refine kQ ?_
 refine kCS 3 [1,2,4,6,67,68] [(1,.v (.int .i64 window)),(2,.p 0 0),(4,.p 1 0),(6,.v (.slice v10a ((L ++ ([⟨c.t.my,c.t.port,(nextChunk s window (mssO c.o)).1.seq,c.r.next,25,windowOf c.r,⟨0,(-1),false,false,0,0⟩,(nextChunk s window (mssO c.o)).1.text⟩] : List Seg)).length) v10c)),(67,.v (.agg (sndL s).toArray)),(68,.v (.agg (chkL (nextChunk s window (mssO c.o)).1).toArray))] 93 [.agg (sndL s).toArray,.agg (chkL (nextChunk s window (mssO c.o)).1).toArray] (some 69) rfl (xc_b fun ww hf => ysSentOff_c s ((nextChunk s window (mssO c.o)).1) ww  ) ?_
 intro _
 refine kEU [1,2,4,6] [] 0 ⟨34,conL { c with s := (sentOff s ((nextChunk s window (mssO c.o)).1)),timer := t } (.slice v1a c.r.held.length v1c)⟩ ?_
 refine kQ ?_
 refine kED [1,2,4,6,73] [(73,.v (.bool (t == 0)))] ?_
 refine kC (t == 0) (fun h11 => ?_) (fun h11 => ?_)
 have h11p := eqT h11
 refine kG ?_
 refine kEU [1,2,4,6] [] 0 ⟨34,conL { c with s := (sentOff s ((nextChunk s window (mssO c.o)).1)),timer := 3 } (.slice v1a c.r.held.length v1c)⟩ ?_
 have hrow : segOf c (nextChunk s window (mssO c.o)).1 = ⟨c.t.my,c.t.port,(nextChunk s window (mssO c.o)).1.seq,c.r.next,25,windowOf c.r,⟨0,(-1),false,false,0,0⟩,(nextChunk s window (mssO c.o)).1.text⟩ := by simp [segOf,hT,hF]
 exact ⟨⟨(sentOff s (nextChunk s window (mssO c.o)).1,(L ++ ([⟨c.t.my,c.t.port,(nextChunk s window (mssO c.o)).1.seq,c.r.next,25,windowOf c.r,⟨0,(-1),false,false,0,0⟩,(nextChunk s window (mssO c.o)).1.text⟩] : List Seg)),3,v10a,v10c),⟨pumpS_step hyes HS,pumpL_step hyes hrow HL,row_len HR (meas_next hyes),tmr_next HT (by (try dsimp only); split <;> omega)⟩⟩,(wk_pick [0,2,3] [rowF w.heap.size 36 13 (.slice v10a ((L ++ ([⟨c.t.my,c.t.port,(nextChunk s window (mssO c.o)).1.seq,c.r.next,25,windowOf c.r,⟨0,(-1),false,false,0,0⟩,(nextChunk s window (mssO c.o)).1.text⟩] : List Seg)).length) v10c) ((L ++ ([⟨c.t.my,c.t.port,(nextChunk s window (mssO c.o)).1.seq,c.r.next,25,windowOf c.r,⟨0,(-1),false,false,0,0⟩,(nextChunk s window (mssO c.o)).1.text⟩] : List Seg)).map segCells),ownF w.heap.size (.slice v1a c.r.held.length v1c) 2 (c.r.held.map pceCells),slF (.slice Acrh c.r.held.length Ccrh) 2 (c.r.held.map pceCells)] (by kernel_rfl) (by kernel_rfl)).trans <| kF 2 0 [1,2,4,6],by show (fun (s : Snd) (L : List Seg) (t : Int) (A : Option Addr) (cap : Nat) => meas s) (sentOff s (nextChunk s window (mssO c.o)).1) (L ++ ([⟨c.t.my,c.t.port,(nextChunk s window (mssO c.o)).1.seq,c.r.next,25,windowOf c.r,⟨0,(-1),false,false,0,0⟩,(nextChunk s window (mssO c.o)).1.text⟩] : List Seg)) 3 v10a v10c < meas s; exact meas_next hyes⟩
 have h11p := eqF h11
 refine kK ?_
 have hrow : segOf c (nextChunk s window (mssO c.o)).1 = ⟨c.t.my,c.t.port,(nextChunk s window (mssO c.o)).1.seq,c.r.next,25,windowOf c.r,⟨0,(-1),false,false,0,0⟩,(nextChunk s window (mssO c.o)).1.text⟩ := by simp [segOf,hT,hF]
 exact ⟨⟨(sentOff s (nextChunk s window (mssO c.o)).1,(L ++ ([⟨c.t.my,c.t.port,(nextChunk s window (mssO c.o)).1.seq,c.r.next,25,windowOf c.r,⟨0,(-1),false,false,0,0⟩,(nextChunk s window (mssO c.o)).1.text⟩] : List Seg)),t,v10a,v10c),⟨pumpS_step hyes HS,pumpL_step hyes hrow HL,row_len HR (meas_next hyes),tmr_next HT (by (try dsimp only); split <;> omega)⟩⟩,(wk_pick [0,2,3] [rowF w.heap.size 36 13 (.slice v10a ((L ++ ([⟨c.t.my,c.t.port,(nextChunk s window (mssO c.o)).1.seq,c.r.next,25,windowOf c.r,⟨0,(-1),false,false,0,0⟩,(nextChunk s window (mssO c.o)).1.text⟩] : List Seg)).length) v10c) ((L ++ ([⟨c.t.my,c.t.port,(nextChunk s window (mssO c.o)).1.seq,c.r.next,25,windowOf c.r,⟨0,(-1),false,false,0,0⟩,(nextChunk s window (mssO c.o)).1.text⟩] : List Seg)).map segCells),ownF w.heap.size (.slice v1a c.r.held.length v1c) 2 (c.r.held.map pceCells),slF (.slice Acrh c.r.held.length Ccrh) 2 (c.r.held.map pceCells)] (by kernel_rfl) (by kernel_rfl)).trans <| kF 2 0 [1,2,4,6],by show (fun (s : Snd) (L : List Seg) (t : Int) (A : Option Addr) (cap : Nat) => meas s) (sentOff s (nextChunk s window (mssO c.o)).1) (L ++ ([⟨c.t.my,c.t.port,(nextChunk s window (mssO c.o)).1.seq,c.r.next,25,windowOf c.r,⟨0,(-1),false,false,0,0⟩,(nextChunk s window (mssO c.o)).1.text⟩] : List Seg)) t v10a v10c < meas s; exact meas_next hyes⟩
 have hF := h8
 refine kK ?_
 refine kQ ?_
 refine kHD 2 [1,2,4,6,7,62,63] [(62,.v (.slice A L.length cap)),(63,.v (.agg #[.int .i64 c.t.my,.int .i64 c.t.port,.int .i64 ((nextChunk s window (mssO c.o)).1.seq),.int .i64 c.r.next,.int .i64 24,.int .i64 (windowOf c.r),.int .i64 0,.int .i64 (-1),.bool false,.bool false,.int .i64 0,.int .i64 0,.string ((nextChunk s window (mssO c.o)).1.text)]))] rfl (hv_build (e := 36) (K := 13) (bytes := 104) [.agg #[.int .i64 c.t.my,.int .i64 c.t.port,.int .i64 ((nextChunk s window (mssO c.o)).1.seq),.int .i64 c.r.next,.int .i64 24,.int .i64 (windowOf c.r),.int .i64 0,.int .i64 (-1),.bool false,.bool false,.int .i64 0,.int .i64 0,.string ((nextChunk s window (mssO c.o)).1.text)]] rfl (by kernel_rfl) (by kernel_rfl) (by kernel_rfl) (by kernel_rfl) (by kernel_rfl) (rs := ([⟨c.t.my,c.t.port,(nextChunk s window (mssO c.o)).1.seq,c.r.next,24,windowOf c.r,⟨0,(-1),false,false,0,0⟩,(nextChunk s window (mssO c.o)).1.text⟩] : List Seg).map segCells) rfl) ?_
 intro g12
 refine kHD 0 [1,2,4,6,7,62,64] [] rfl (hv_append (e := 36) (K := 13) (bytes := 104) (i := 1) (q := (L ++ ([⟨c.t.my,c.t.port,(nextChunk s window (mssO c.o)).1.seq,c.r.next,24,windowOf c.r,⟨0,(-1),false,false,0,0⟩,(nextChunk s window (mssO c.o)).1.text⟩] : List Seg)).length) (new := ([⟨c.t.my,c.t.port,(nextChunk s window (mssO c.o)).1.seq,c.r.next,24,windowOf c.r,⟨0,(-1),false,false,0,0⟩,(nextChunk s window (mssO c.o)).1.text⟩] : List Seg).map segCells) (rs' := (L ++ ([⟨c.t.my,c.t.port,(nextChunk s window (mssO c.o)).1.seq,c.r.next,24,windowOf c.r,⟨0,(-1),false,false,0,0⟩,(nextChunk s window (mssO c.o)).1.text⟩] : List Seg)).map segCells) rfl rfl rfl rfl (by kernel_rfl) (by kernel_rfl) (by kernel_rfl) rfl (by simp) (by rw [List.map_append]) (by simp) (fun ww hf => (rowF_sl (hf (rowF w.heap.size 36 13 (.slice (some ⟨g12,0,none⟩) 1 1) (([⟨c.t.my,c.t.port,(nextChunk s window (mssO c.o)).1.seq,c.r.next,24,windowOf c.r,⟨0,(-1),false,false,0,0⟩,(nextChunk s window (mssO c.o)).1.text⟩] : List Seg).map segCells)) (by simp)))) (by intro r hr; obtain ⟨x,hx,rfl⟩ := List.mem_map.1 hr; exact ⟨rfl,by simp [segCells,Value.oneCell']⟩) (by (try simp only [List.length_map,List.length_append,List.length_cons,List.length_nil,List.length_take,List.length_drop,maxLen]); omega) (by (try simp only [List.length_map,List.length_append,List.length_cons,List.length_nil,List.length_take,List.length_drop,maxLen]); omega)) ?_
 rintro ⟨v13a,v13c⟩
 refine kED [1,2,4,6,7] [(6,.v (.slice v13a ((L ++ ([⟨c.t.my,c.t.port,(nextChunk s window (mssO c.o)).1.seq,c.r.next,24,windowOf c.r,⟨0,(-1),false,false,0,0⟩,(nextChunk s window (mssO c.o)).1.text⟩] : List Seg)).length) v13c))] ?_
 refine kQ ?_
 refine kCD 3 [1,2,4,6,67,68] [(67,.v (.agg (sndL s).toArray)),(68,.v (.agg (chkL (nextChunk s window (mssO c.o)).1).toArray))] 93 [.agg (sndL s).toArray,.agg (chkL (nextChunk s window (mssO c.o)).1).toArray] (some 69) rfl (xc_b fun ww hf => ysSentOff_c s ((nextChunk s window (mssO c.o)).1) ww  ) ?_
 intro _
 refine kEF [1,2,4,6] ⟨[(1,.v (.int .i64 window)),(2,.p 0 0),(4,.p 1 0),(6,.v (.slice v13a ((L ++ ([⟨c.t.my,c.t.port,(nextChunk s window (mssO c.o)).1.seq,c.r.next,24,windowOf c.r,⟨0,(-1),false,false,0,0⟩,(nextChunk s window (mssO c.o)).1.text⟩] : List Seg)).length) v13c))],[⟨34,conL { c with s := (sentOff s ((nextChunk s window (mssO c.o)).1)),timer := t } (.slice v1a c.r.held.length v1c)⟩,⟨34,conZ⟩,⟨89,chkL (nextChunk s window (mssO c.o)).1⟩,⟨36,[.int .i64 c.t.my,.int .i64 c.t.port,.int .i64 ((nextChunk s window (mssO c.o)).1.seq),.int .i64 c.r.next,.int .i64 24,.int .i64 (windowOf c.r),.int .i64 0,.int .i64 (-1),.bool false,.bool false,.int .i64 0,.int .i64 0,.string ((nextChunk s window (mssO c.o)).1.text)]⟩],[],[rowF w.heap.size 36 13 (.slice v13a ((L ++ ([⟨c.t.my,c.t.port,(nextChunk s window (mssO c.o)).1.seq,c.r.next,24,windowOf c.r,⟨0,(-1),false,false,0,0⟩,(nextChunk s window (mssO c.o)).1.text⟩] : List Seg)).length) v13c) ((L ++ ([⟨c.t.my,c.t.port,(nextChunk s window (mssO c.o)).1.seq,c.r.next,24,windowOf c.r,⟨0,(-1),false,false,0,0⟩,(nextChunk s window (mssO c.o)).1.text⟩] : List Seg)).map segCells),rowF w.heap.size 36 13 (.slice (some ⟨g12,0,none⟩) 1 1) (([⟨c.t.my,c.t.port,(nextChunk s window (mssO c.o)).1.seq,c.r.next,24,windowOf c.r,⟨0,(-1),false,false,0,0⟩,(nextChunk s window (mssO c.o)).1.text⟩] : List Seg).map segCells),ownF w.heap.size (.slice v1a c.r.held.length v1c) 2 (c.r.held.map pceCells),slF (.slice Acrh c.r.held.length Ccrh) 2 (c.r.held.map pceCells)]⟩ ?_
 refine kQ ?_
 refine kED [1,2,4,6,73] [(73,.v (.bool (t == 0)))] ?_
 refine kC (t == 0) (fun h14 => ?_) (fun h14 => ?_)
 have h14p := eqT h14
 refine kG ?_
 refine kEU [1,2,4,6] [] 0 ⟨34,conL { c with s := (sentOff s ((nextChunk s window (mssO c.o)).1)),timer := 3 } (.slice v1a c.r.held.length v1c)⟩ ?_
 have hrow : segOf c (nextChunk s window (mssO c.o)).1 = ⟨c.t.my,c.t.port,(nextChunk s window (mssO c.o)).1.seq,c.r.next,24,windowOf c.r,⟨0,(-1),false,false,0,0⟩,(nextChunk s window (mssO c.o)).1.text⟩ := by simp [segOf,hT,hF]
 exact ⟨⟨(sentOff s (nextChunk s window (mssO c.o)).1,(L ++ ([⟨c.t.my,c.t.port,(nextChunk s window (mssO c.o)).1.seq,c.r.next,24,windowOf c.r,⟨0,(-1),false,false,0,0⟩,(nextChunk s window (mssO c.o)).1.text⟩] : List Seg)),3,v13a,v13c),⟨pumpS_step hyes HS,pumpL_step hyes hrow HL,row_len HR (meas_next hyes),tmr_next HT (by (try dsimp only); split <;> omega)⟩⟩,(wk_pick [0,2,3] [rowF w.heap.size 36 13 (.slice v13a ((L ++ ([⟨c.t.my,c.t.port,(nextChunk s window (mssO c.o)).1.seq,c.r.next,24,windowOf c.r,⟨0,(-1),false,false,0,0⟩,(nextChunk s window (mssO c.o)).1.text⟩] : List Seg)).length) v13c) ((L ++ ([⟨c.t.my,c.t.port,(nextChunk s window (mssO c.o)).1.seq,c.r.next,24,windowOf c.r,⟨0,(-1),false,false,0,0⟩,(nextChunk s window (mssO c.o)).1.text⟩] : List Seg)).map segCells),ownF w.heap.size (.slice v1a c.r.held.length v1c) 2 (c.r.held.map pceCells),slF (.slice Acrh c.r.held.length Ccrh) 2 (c.r.held.map pceCells)] (by kernel_rfl) (by kernel_rfl)).trans <| kF 2 0 [1,2,4,6],by show (fun (s : Snd) (L : List Seg) (t : Int) (A : Option Addr) (cap : Nat) => meas s) (sentOff s (nextChunk s window (mssO c.o)).1) (L ++ ([⟨c.t.my,c.t.port,(nextChunk s window (mssO c.o)).1.seq,c.r.next,24,windowOf c.r,⟨0,(-1),false,false,0,0⟩,(nextChunk s window (mssO c.o)).1.text⟩] : List Seg)) 3 v13a v13c < meas s; exact meas_next hyes⟩
 have h14p := eqF h14
 refine kK ?_
 have hrow : segOf c (nextChunk s window (mssO c.o)).1 = ⟨c.t.my,c.t.port,(nextChunk s window (mssO c.o)).1.seq,c.r.next,24,windowOf c.r,⟨0,(-1),false,false,0,0⟩,(nextChunk s window (mssO c.o)).1.text⟩ := by simp [segOf,hT,hF]
 exact ⟨⟨(sentOff s (nextChunk s window (mssO c.o)).1,(L ++ ([⟨c.t.my,c.t.port,(nextChunk s window (mssO c.o)).1.seq,c.r.next,24,windowOf c.r,⟨0,(-1),false,false,0,0⟩,(nextChunk s window (mssO c.o)).1.text⟩] : List Seg)),t,v13a,v13c),⟨pumpS_step hyes HS,pumpL_step hyes hrow HL,row_len HR (meas_next hyes),tmr_next HT (by (try dsimp only); split <;> omega)⟩⟩,(wk_pick [0,2,3] [rowF w.heap.size 36 13 (.slice v13a ((L ++ ([⟨c.t.my,c.t.port,(nextChunk s window (mssO c.o)).1.seq,c.r.next,24,windowOf c.r,⟨0,(-1),false,false,0,0⟩,(nextChunk s window (mssO c.o)).1.text⟩] : List Seg)).length) v13c) ((L ++ ([⟨c.t.my,c.t.port,(nextChunk s window (mssO c.o)).1.seq,c.r.next,24,windowOf c.r,⟨0,(-1),false,false,0,0⟩,(nextChunk s window (mssO c.o)).1.text⟩] : List Seg)).map segCells),ownF w.heap.size (.slice v1a c.r.held.length v1c) 2 (c.r.held.map pceCells),slF (.slice Acrh c.r.held.length Ccrh) 2 (c.r.held.map pceCells)] (by kernel_rfl) (by kernel_rfl)).trans <| kF 2 0 [1,2,4,6],by show (fun (s : Snd) (L : List Seg) (t : Int) (A : Option Addr) (cap : Nat) => meas s) (sentOff s (nextChunk s window (mssO c.o)).1) (L ++ ([⟨c.t.my,c.t.port,(nextChunk s window (mssO c.o)).1.seq,c.r.next,24,windowOf c.r,⟨0,(-1),false,false,0,0⟩,(nextChunk s window (mssO c.o)).1.text⟩] : List Seg)) t v13a v13c < meas s; exact meas_next hyes⟩
 have hT : (nextChunk s window (mssO c.o)).1.text.toList.isEmpty = true := by simpa [toList_lit0] using h7
 refine kK ?_
 refine kS ?_
 refine kQ ?_
 refine kED [1,2,4,6,7,9,57] [(57,.v (.bool ((nextChunk s window (mssO c.o)).1.fin)))] ?_
 refine kC ((nextChunk s window (mssO c.o)).1.fin) (fun h15 => ?_) (fun h15 => ?_)
 have hF := h15
 refine kG ?_
 refine kEU [1,2,4,6,7,9] [] 3 ⟨36,[.int .i64 c.t.my,.int .i64 c.t.port,.int .i64 ((nextChunk s window (mssO c.o)).1.seq),.int .i64 c.r.next,.int .i64 17,.int .i64 (windowOf c.r),.int .i64 0,.int .i64 (-1),.bool false,.bool false,.int .i64 0,.int .i64 0,.string ((nextChunk s window (mssO c.o)).1.text)]⟩ ?_
 refine kQ ?_
 refine kHD 2 [1,2,4,6,7,62,63] [(62,.v (.slice A L.length cap)),(63,.v (.agg #[.int .i64 c.t.my,.int .i64 c.t.port,.int .i64 ((nextChunk s window (mssO c.o)).1.seq),.int .i64 c.r.next,.int .i64 17,.int .i64 (windowOf c.r),.int .i64 0,.int .i64 (-1),.bool false,.bool false,.int .i64 0,.int .i64 0,.string ((nextChunk s window (mssO c.o)).1.text)]))] rfl (hv_build (e := 36) (K := 13) (bytes := 104) [.agg #[.int .i64 c.t.my,.int .i64 c.t.port,.int .i64 ((nextChunk s window (mssO c.o)).1.seq),.int .i64 c.r.next,.int .i64 17,.int .i64 (windowOf c.r),.int .i64 0,.int .i64 (-1),.bool false,.bool false,.int .i64 0,.int .i64 0,.string ((nextChunk s window (mssO c.o)).1.text)]] rfl (by kernel_rfl) (by kernel_rfl) (by kernel_rfl) (by kernel_rfl) (by kernel_rfl) (rs := ([⟨c.t.my,c.t.port,(nextChunk s window (mssO c.o)).1.seq,c.r.next,17,windowOf c.r,⟨0,(-1),false,false,0,0⟩,(nextChunk s window (mssO c.o)).1.text⟩] : List Seg).map segCells) rfl) ?_
 intro g16
 refine kHD 0 [1,2,4,6,7,62,64] [] rfl (hv_append (e := 36) (K := 13) (bytes := 104) (i := 1) (q := (L ++ ([⟨c.t.my,c.t.port,(nextChunk s window (mssO c.o)).1.seq,c.r.next,17,windowOf c.r,⟨0,(-1),false,false,0,0⟩,(nextChunk s window (mssO c.o)).1.text⟩] : List Seg)).length) (new := ([⟨c.t.my,c.t.port,(nextChunk s window (mssO c.o)).1.seq,c.r.next,17,windowOf c.r,⟨0,(-1),false,false,0,0⟩,(nextChunk s window (mssO c.o)).1.text⟩] : List Seg).map segCells) (rs' := (L ++ ([⟨c.t.my,c.t.port,(nextChunk s window (mssO c.o)).1.seq,c.r.next,17,windowOf c.r,⟨0,(-1),false,false,0,0⟩,(nextChunk s window (mssO c.o)).1.text⟩] : List Seg)).map segCells) rfl rfl rfl rfl (by kernel_rfl) (by kernel_rfl) (by kernel_rfl) rfl (by simp) (by rw [List.map_append]) (by simp) (fun ww hf => (rowF_sl (hf (rowF w.heap.size 36 13 (.slice (some ⟨g16,0,none⟩) 1 1) (([⟨c.t.my,c.t.port,(nextChunk s window (mssO c.o)).1.seq,c.r.next,17,windowOf c.r,⟨0,(-1),false,false,0,0⟩,(nextChunk s window (mssO c.o)).1.text⟩] : List Seg).map segCells)) (by simp)))) (by intro r hr; obtain ⟨x,hx,rfl⟩ := List.mem_map.1 hr; exact ⟨rfl,by simp [segCells,Value.oneCell']⟩) (by (try simp only [List.length_map,List.length_append,List.length_cons,List.length_nil,List.length_take,List.length_drop,maxLen]); omega) (by (try simp only [List.length_map,List.length_append,List.length_cons,List.length_nil,List.length_take,List.length_drop,maxLen]); omega)) ?_
 rintro ⟨v17a,v17c⟩
 refine kED [1,2,4,6,7] [(6,.v (.slice v17a ((L ++ ([⟨c.t.my,c.t.port,(nextChunk s window (mssO c.o)).1.seq,c.r.next,17,windowOf c.r,⟨0,(-1),false,false,0,0⟩,(nextChunk s window (mssO c.o)).1.text⟩] : List Seg)).length) v17c))] ?_
 refine kQ ?_
 refine kCD 3 [1,2,4,6,67,68] [(67,.v (.agg (sndL s).toArray)),(68,.v (.agg (chkL (nextChunk s window (mssO c.o)).1).toArray))] 93 [.agg (sndL s).toArray,.agg (chkL (nextChunk s window (mssO c.o)).1).toArray] (some 69) rfl (xc_b fun ww hf => ysSentOff_c s ((nextChunk s window (mssO c.o)).1) ww  ) ?_
 intro _
 refine kEF [1,2,4,6] ⟨[(1,.v (.int .i64 window)),(2,.p 0 0),(4,.p 1 0),(6,.v (.slice v17a ((L ++ ([⟨c.t.my,c.t.port,(nextChunk s window (mssO c.o)).1.seq,c.r.next,17,windowOf c.r,⟨0,(-1),false,false,0,0⟩,(nextChunk s window (mssO c.o)).1.text⟩] : List Seg)).length) v17c))],[⟨34,conL { c with s := (sentOff s ((nextChunk s window (mssO c.o)).1)),timer := t } (.slice v1a c.r.held.length v1c)⟩,⟨34,conZ⟩,⟨89,chkL (nextChunk s window (mssO c.o)).1⟩,⟨36,[.int .i64 c.t.my,.int .i64 c.t.port,.int .i64 ((nextChunk s window (mssO c.o)).1.seq),.int .i64 c.r.next,.int .i64 17,.int .i64 (windowOf c.r),.int .i64 0,.int .i64 (-1),.bool false,.bool false,.int .i64 0,.int .i64 0,.string ((nextChunk s window (mssO c.o)).1.text)]⟩],[],[rowF w.heap.size 36 13 (.slice v17a ((L ++ ([⟨c.t.my,c.t.port,(nextChunk s window (mssO c.o)).1.seq,c.r.next,17,windowOf c.r,⟨0,(-1),false,false,0,0⟩,(nextChunk s window (mssO c.o)).1.text⟩] : List Seg)).length) v17c) ((L ++ ([⟨c.t.my,c.t.port,(nextChunk s window (mssO c.o)).1.seq,c.r.next,17,windowOf c.r,⟨0,(-1),false,false,0,0⟩,(nextChunk s window (mssO c.o)).1.text⟩] : List Seg)).map segCells),rowF w.heap.size 36 13 (.slice (some ⟨g16,0,none⟩) 1 1) (([⟨c.t.my,c.t.port,(nextChunk s window (mssO c.o)).1.seq,c.r.next,17,windowOf c.r,⟨0,(-1),false,false,0,0⟩,(nextChunk s window (mssO c.o)).1.text⟩] : List Seg).map segCells),ownF w.heap.size (.slice v1a c.r.held.length v1c) 2 (c.r.held.map pceCells),slF (.slice Acrh c.r.held.length Ccrh) 2 (c.r.held.map pceCells)]⟩ ?_
 refine kQ ?_
 refine kED [1,2,4,6,73] [(73,.v (.bool (t == 0)))] ?_
 refine kC (t == 0) (fun h18 => ?_) (fun h18 => ?_)
 have h18p := eqT h18
 refine kG ?_
 refine kEU [1,2,4,6] [] 0 ⟨34,conL { c with s := (sentOff s ((nextChunk s window (mssO c.o)).1)),timer := 3 } (.slice v1a c.r.held.length v1c)⟩ ?_
 have hrow : segOf c (nextChunk s window (mssO c.o)).1 = ⟨c.t.my,c.t.port,(nextChunk s window (mssO c.o)).1.seq,c.r.next,17,windowOf c.r,⟨0,(-1),false,false,0,0⟩,(nextChunk s window (mssO c.o)).1.text⟩ := by simp [segOf,hT,hF]
 exact ⟨⟨(sentOff s (nextChunk s window (mssO c.o)).1,(L ++ ([⟨c.t.my,c.t.port,(nextChunk s window (mssO c.o)).1.seq,c.r.next,17,windowOf c.r,⟨0,(-1),false,false,0,0⟩,(nextChunk s window (mssO c.o)).1.text⟩] : List Seg)),3,v17a,v17c),⟨pumpS_step hyes HS,pumpL_step hyes hrow HL,row_len HR (meas_next hyes),tmr_next HT (by (try dsimp only); split <;> omega)⟩⟩,(wk_pick [0,2,3] [rowF w.heap.size 36 13 (.slice v17a ((L ++ ([⟨c.t.my,c.t.port,(nextChunk s window (mssO c.o)).1.seq,c.r.next,17,windowOf c.r,⟨0,(-1),false,false,0,0⟩,(nextChunk s window (mssO c.o)).1.text⟩] : List Seg)).length) v17c) ((L ++ ([⟨c.t.my,c.t.port,(nextChunk s window (mssO c.o)).1.seq,c.r.next,17,windowOf c.r,⟨0,(-1),false,false,0,0⟩,(nextChunk s window (mssO c.o)).1.text⟩] : List Seg)).map segCells),ownF w.heap.size (.slice v1a c.r.held.length v1c) 2 (c.r.held.map pceCells),slF (.slice Acrh c.r.held.length Ccrh) 2 (c.r.held.map pceCells)] (by kernel_rfl) (by kernel_rfl)).trans <| kF 2 0 [1,2,4,6],by show (fun (s : Snd) (L : List Seg) (t : Int) (A : Option Addr) (cap : Nat) => meas s) (sentOff s (nextChunk s window (mssO c.o)).1) (L ++ ([⟨c.t.my,c.t.port,(nextChunk s window (mssO c.o)).1.seq,c.r.next,17,windowOf c.r,⟨0,(-1),false,false,0,0⟩,(nextChunk s window (mssO c.o)).1.text⟩] : List Seg)) 3 v17a v17c < meas s; exact meas_next hyes⟩
 have h18p := eqF h18
 refine kK ?_
 have hrow : segOf c (nextChunk s window (mssO c.o)).1 = ⟨c.t.my,c.t.port,(nextChunk s window (mssO c.o)).1.seq,c.r.next,17,windowOf c.r,⟨0,(-1),false,false,0,0⟩,(nextChunk s window (mssO c.o)).1.text⟩ := by simp [segOf,hT,hF]
 exact ⟨⟨(sentOff s (nextChunk s window (mssO c.o)).1,(L ++ ([⟨c.t.my,c.t.port,(nextChunk s window (mssO c.o)).1.seq,c.r.next,17,windowOf c.r,⟨0,(-1),false,false,0,0⟩,(nextChunk s window (mssO c.o)).1.text⟩] : List Seg)),t,v17a,v17c),⟨pumpS_step hyes HS,pumpL_step hyes hrow HL,row_len HR (meas_next hyes),tmr_next HT (by (try dsimp only); split <;> omega)⟩⟩,(wk_pick [0,2,3] [rowF w.heap.size 36 13 (.slice v17a ((L ++ ([⟨c.t.my,c.t.port,(nextChunk s window (mssO c.o)).1.seq,c.r.next,17,windowOf c.r,⟨0,(-1),false,false,0,0⟩,(nextChunk s window (mssO c.o)).1.text⟩] : List Seg)).length) v17c) ((L ++ ([⟨c.t.my,c.t.port,(nextChunk s window (mssO c.o)).1.seq,c.r.next,17,windowOf c.r,⟨0,(-1),false,false,0,0⟩,(nextChunk s window (mssO c.o)).1.text⟩] : List Seg)).map segCells),ownF w.heap.size (.slice v1a c.r.held.length v1c) 2 (c.r.held.map pceCells),slF (.slice Acrh c.r.held.length Ccrh) 2 (c.r.held.map pceCells)] (by kernel_rfl) (by kernel_rfl)).trans <| kF 2 0 [1,2,4,6],by show (fun (s : Snd) (L : List Seg) (t : Int) (A : Option Addr) (cap : Nat) => meas s) (sentOff s (nextChunk s window (mssO c.o)).1) (L ++ ([⟨c.t.my,c.t.port,(nextChunk s window (mssO c.o)).1.seq,c.r.next,17,windowOf c.r,⟨0,(-1),false,false,0,0⟩,(nextChunk s window (mssO c.o)).1.text⟩] : List Seg)) t v17a v17c < meas s; exact meas_next hyes⟩
 have hF := h15
 refine kK ?_
 refine kQ ?_
 refine kHD 2 [1,2,4,6,7,62,63] [(62,.v (.slice A L.length cap)),(63,.v (.agg #[.int .i64 c.t.my,.int .i64 c.t.port,.int .i64 ((nextChunk s window (mssO c.o)).1.seq),.int .i64 c.r.next,.int .i64 16,.int .i64 (windowOf c.r),.int .i64 0,.int .i64 (-1),.bool false,.bool false,.int .i64 0,.int .i64 0,.string ((nextChunk s window (mssO c.o)).1.text)]))] rfl (hv_build (e := 36) (K := 13) (bytes := 104) [.agg #[.int .i64 c.t.my,.int .i64 c.t.port,.int .i64 ((nextChunk s window (mssO c.o)).1.seq),.int .i64 c.r.next,.int .i64 16,.int .i64 (windowOf c.r),.int .i64 0,.int .i64 (-1),.bool false,.bool false,.int .i64 0,.int .i64 0,.string ((nextChunk s window (mssO c.o)).1.text)]] rfl (by kernel_rfl) (by kernel_rfl) (by kernel_rfl) (by kernel_rfl) (by kernel_rfl) (rs := ([⟨c.t.my,c.t.port,(nextChunk s window (mssO c.o)).1.seq,c.r.next,16,windowOf c.r,⟨0,(-1),false,false,0,0⟩,(nextChunk s window (mssO c.o)).1.text⟩] : List Seg).map segCells) rfl) ?_
 intro g19
 refine kHD 0 [1,2,4,6,7,62,64] [] rfl (hv_append (e := 36) (K := 13) (bytes := 104) (i := 1) (q := (L ++ ([⟨c.t.my,c.t.port,(nextChunk s window (mssO c.o)).1.seq,c.r.next,16,windowOf c.r,⟨0,(-1),false,false,0,0⟩,(nextChunk s window (mssO c.o)).1.text⟩] : List Seg)).length) (new := ([⟨c.t.my,c.t.port,(nextChunk s window (mssO c.o)).1.seq,c.r.next,16,windowOf c.r,⟨0,(-1),false,false,0,0⟩,(nextChunk s window (mssO c.o)).1.text⟩] : List Seg).map segCells) (rs' := (L ++ ([⟨c.t.my,c.t.port,(nextChunk s window (mssO c.o)).1.seq,c.r.next,16,windowOf c.r,⟨0,(-1),false,false,0,0⟩,(nextChunk s window (mssO c.o)).1.text⟩] : List Seg)).map segCells) rfl rfl rfl rfl (by kernel_rfl) (by kernel_rfl) (by kernel_rfl) rfl (by simp) (by rw [List.map_append]) (by simp) (fun ww hf => (rowF_sl (hf (rowF w.heap.size 36 13 (.slice (some ⟨g19,0,none⟩) 1 1) (([⟨c.t.my,c.t.port,(nextChunk s window (mssO c.o)).1.seq,c.r.next,16,windowOf c.r,⟨0,(-1),false,false,0,0⟩,(nextChunk s window (mssO c.o)).1.text⟩] : List Seg).map segCells)) (by simp)))) (by intro r hr; obtain ⟨x,hx,rfl⟩ := List.mem_map.1 hr; exact ⟨rfl,by simp [segCells,Value.oneCell']⟩) (by (try simp only [List.length_map,List.length_append,List.length_cons,List.length_nil,List.length_take,List.length_drop,maxLen]); omega) (by (try simp only [List.length_map,List.length_append,List.length_cons,List.length_nil,List.length_take,List.length_drop,maxLen]); omega)) ?_
 rintro ⟨v20a,v20c⟩
 refine kED [1,2,4,6,7] [(6,.v (.slice v20a ((L ++ ([⟨c.t.my,c.t.port,(nextChunk s window (mssO c.o)).1.seq,c.r.next,16,windowOf c.r,⟨0,(-1),false,false,0,0⟩,(nextChunk s window (mssO c.o)).1.text⟩] : List Seg)).length) v20c))] ?_
 refine kQ ?_
 refine kCD 3 [1,2,4,6,67,68] [(67,.v (.agg (sndL s).toArray)),(68,.v (.agg (chkL (nextChunk s window (mssO c.o)).1).toArray))] 93 [.agg (sndL s).toArray,.agg (chkL (nextChunk s window (mssO c.o)).1).toArray] (some 69) rfl (xc_b fun ww hf => ysSentOff_c s ((nextChunk s window (mssO c.o)).1) ww  ) ?_
 intro _
 refine kEU [1,2,4,6] [] 0 ⟨34,conL { c with s := (sentOff s ((nextChunk s window (mssO c.o)).1)),timer := t } (.slice v1a c.r.held.length v1c)⟩ ?_
 refine kQ ?_
 refine kES [1,2,4,6,73] [(1,.v (.int .i64 window)),(2,.p 0 0),(4,.p 1 0),(6,.v (.slice v20a ((L ++ ([⟨c.t.my,c.t.port,(nextChunk s window (mssO c.o)).1.seq,c.r.next,16,windowOf c.r,⟨0,(-1),false,false,0,0⟩,(nextChunk s window (mssO c.o)).1.text⟩] : List Seg)).length) v20c)),(73,.v (.bool (t == 0)))] ?_
 refine kC (t == 0) (fun h21 => ?_) (fun h21 => ?_)
 have h21p := eqT h21
 refine kG ?_
 refine kEU [1,2,4,6] [] 0 ⟨34,conL { c with s := (sentOff s ((nextChunk s window (mssO c.o)).1)),timer := 3 } (.slice v1a c.r.held.length v1c)⟩ ?_
 have hrow : segOf c (nextChunk s window (mssO c.o)).1 = ⟨c.t.my,c.t.port,(nextChunk s window (mssO c.o)).1.seq,c.r.next,16,windowOf c.r,⟨0,(-1),false,false,0,0⟩,(nextChunk s window (mssO c.o)).1.text⟩ := by simp [segOf,hT,hF]
 exact ⟨⟨(sentOff s (nextChunk s window (mssO c.o)).1,(L ++ ([⟨c.t.my,c.t.port,(nextChunk s window (mssO c.o)).1.seq,c.r.next,16,windowOf c.r,⟨0,(-1),false,false,0,0⟩,(nextChunk s window (mssO c.o)).1.text⟩] : List Seg)),3,v20a,v20c),⟨pumpS_step hyes HS,pumpL_step hyes hrow HL,row_len HR (meas_next hyes),tmr_next HT (by (try dsimp only); split <;> omega)⟩⟩,(wk_pick [0,2,3] [rowF w.heap.size 36 13 (.slice v20a ((L ++ ([⟨c.t.my,c.t.port,(nextChunk s window (mssO c.o)).1.seq,c.r.next,16,windowOf c.r,⟨0,(-1),false,false,0,0⟩,(nextChunk s window (mssO c.o)).1.text⟩] : List Seg)).length) v20c) ((L ++ ([⟨c.t.my,c.t.port,(nextChunk s window (mssO c.o)).1.seq,c.r.next,16,windowOf c.r,⟨0,(-1),false,false,0,0⟩,(nextChunk s window (mssO c.o)).1.text⟩] : List Seg)).map segCells),ownF w.heap.size (.slice v1a c.r.held.length v1c) 2 (c.r.held.map pceCells),slF (.slice Acrh c.r.held.length Ccrh) 2 (c.r.held.map pceCells)] (by kernel_rfl) (by kernel_rfl)).trans <| kF 2 0 [1,2,4,6],by show (fun (s : Snd) (L : List Seg) (t : Int) (A : Option Addr) (cap : Nat) => meas s) (sentOff s (nextChunk s window (mssO c.o)).1) (L ++ ([⟨c.t.my,c.t.port,(nextChunk s window (mssO c.o)).1.seq,c.r.next,16,windowOf c.r,⟨0,(-1),false,false,0,0⟩,(nextChunk s window (mssO c.o)).1.text⟩] : List Seg)) 3 v20a v20c < meas s; exact meas_next hyes⟩
 have h21p := eqF h21
 refine kK ?_
 have hrow : segOf c (nextChunk s window (mssO c.o)).1 = ⟨c.t.my,c.t.port,(nextChunk s window (mssO c.o)).1.seq,c.r.next,16,windowOf c.r,⟨0,(-1),false,false,0,0⟩,(nextChunk s window (mssO c.o)).1.text⟩ := by simp [segOf,hT,hF]
 exact ⟨⟨(sentOff s (nextChunk s window (mssO c.o)).1,(L ++ ([⟨c.t.my,c.t.port,(nextChunk s window (mssO c.o)).1.seq,c.r.next,16,windowOf c.r,⟨0,(-1),false,false,0,0⟩,(nextChunk s window (mssO c.o)).1.text⟩] : List Seg)),t,v20a,v20c),⟨pumpS_step hyes HS,pumpL_step hyes hrow HL,row_len HR (meas_next hyes),tmr_next HT (by (try dsimp only); split <;> omega)⟩⟩,(wk_pick [0,2,3] [rowF w.heap.size 36 13 (.slice v20a ((L ++ ([⟨c.t.my,c.t.port,(nextChunk s window (mssO c.o)).1.seq,c.r.next,16,windowOf c.r,⟨0,(-1),false,false,0,0⟩,(nextChunk s window (mssO c.o)).1.text⟩] : List Seg)).length) v20c) ((L ++ ([⟨c.t.my,c.t.port,(nextChunk s window (mssO c.o)).1.seq,c.r.next,16,windowOf c.r,⟨0,(-1),false,false,0,0⟩,(nextChunk s window (mssO c.o)).1.text⟩] : List Seg)).map segCells),ownF w.heap.size (.slice v1a c.r.held.length v1c) 2 (c.r.held.map pceCells),slF (.slice Acrh c.r.held.length Ccrh) 2 (c.r.held.map pceCells)] (by kernel_rfl) (by kernel_rfl)).trans <| kF 2 0 [1,2,4,6],by show (fun (s : Snd) (L : List Seg) (t : Int) (A : Option Addr) (cap : Nat) => meas s) (sentOff s (nextChunk s window (mssO c.o)).1) (L ++ ([⟨c.t.my,c.t.port,(nextChunk s window (mssO c.o)).1.seq,c.r.next,16,windowOf c.r,⟨0,(-1),false,false,0,0⟩,(nextChunk s window (mssO c.o)).1.text⟩] : List Seg)) t v20a v20c < meas s; exact meas_next hyes⟩
end Go.Proofs.YtnmmhbhdcplfmaaGreat
