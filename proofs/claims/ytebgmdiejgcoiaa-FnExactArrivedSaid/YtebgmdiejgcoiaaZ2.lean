/- Contracts that this law needs, part 2. -/
import Derived.Test.YtebgmdiejgcoiaaZ1
namespace Go.Proofs.Ytebgmdiejgcoiaa
open Go.RowKit
set_option linter.unusedVariables false
set_option linter.unusedSimpArgs false
set_option maxRecDepth 100000
set_option maxHeartbeats 2000000

theorem yiArrived_c (r : Rcv) (r_heldV : Value) (seq : Int) (text : ByteArray) (fin : Bool) (w : World) (hl_r_heldV : Sl w r_heldV 2 (r.held.map pceCells)) (hkn : r.held.length ≤ 1048576) (hm : ∀ p ∈ r.held, p.text.size ≤ 1048576) (hsz : r.data.size ≤ 4611686018427387904) (hts : text.size ≤ 4611686018427387904) (B : Nat) (hB : B ≤ w.heap.size) : Calls Try.prog 9 #[.agg (rcvL r r_heldV).toArray, .int .i64 seq, .string text, .bool fin] w fun e w' => XRs w w' e (α := Option Addr × Nat) (fun y => .agg (rcvL (arrived r seq text fin) (.slice y.1 ((arrived r seq text fin).held.length) y.2)).toArray) (fun y => [ownF B (.slice y.1 ((arrived r seq text fin).held.length) y.2) 2 ((arrived r seq text fin).held.map pceCells)]) := by
 obtain ⟨Arh,Crh,hvrh⟩ := hl_r_heldV.form
 rw [List.length_map] at hvrh; subst hvrh
 have hnrh := hl_r_heldV.len; rw [List.length_map] at hnrh
 have hqrh := Sl.capLe hl_r_heldV
 refine x_callsA (args := [.agg (rcvL r (.slice Arh r.held.length Crh)).toArray,.int .i64 seq,.string text,.bool fin]) (fn := Try.f9) [slF (.slice Arh r.held.length Crh) 2 (r.held.map pceCells)] Try.func9 rfl Try.ntmps9 rfl (by simp only [List.mem_cons,List.not_mem_nil,or_false,forall_eq_or_imp,forall_eq]; exact ⟨rfl,hl_r_heldV⟩) ?_
 refine kQ ?_
 refine kEF [1,2,3,4,8] ⟨[(1,.v (.int .i64 seq)),(2,.v (.string text)),(3,.v (.bool fin)),(4,.p 0 0),(8,.p 1 0)],[⟨28,rcvL r (.slice Arh r.held.length Crh)⟩,⟨28,rcvZ⟩],[],[slF (.slice Arh r.held.length Crh) 2 (r.held.map pceCells)]⟩ ?_
 refine kQ ?_
 refine kCD 1 [1,2,3,4,8,24] [(24,.v (.agg (rcvL r (.slice Arh r.held.length Crh)).toArray))] 40 [.agg (rcvL r (.slice Arh r.held.length Crh)).toArray] (some 25) rfl (xc_r fun ww hw hf => ycloneReceiver_c r (.slice Arh r.held.length Crh) ww (hf _ m0) (by assumption) w.heap.size hw) ?_
 rintro ⟨v1a,v1c⟩
 refine kEA [1,2,3,4,8,9] [(9,.p 2 0)] [⟨28,rcvL r (.slice v1a r.held.length v1c)⟩] ?_
 refine kS ?_
 refine kQ ?_
 refine kCD 1 [1,2,3,4,8,9,26] [(26,.v (.agg (rcvL r (.slice Arh r.held.length Crh)).toArray))] 30 [.agg (rcvL r (.slice Arh r.held.length Crh)).toArray] (some 27) rfl (xc_b fun ww hf => yiReceiverOk_c r (.slice Arh r.held.length Crh) ww (hf _ m1) (by assumption) (by omega)) ?_
 intro _
 refine kRD 2 [1,2,3,4,8,9,29] [(29,.v (.bool (!(receiverOk r))))] ?_
 refine kP 29 (!(receiverOk r)) (fun h2 => ?_) (fun h2 => ?_)
 have h2n := not_t h2
 refine kED [1,2,3,4,8,9,32] [(32,.v (.bool true))] ?_
 refine kT ?_
 refine kQ ?_
 refine kEU [8] [(8,.p 1 0)] 1 ⟨28,rcvL r (.slice v1a r.held.length v1c)⟩ ?_
 refine kR ?_
 have hmod : arrived r seq text fin = r := by first | exact arrived_over hrk (by assumption) (by rw [← hall,← hnf,hpc]; omega) | (unfold arrived; rw [if_neg (by grind)]; done) | (unfold arrived; rw [if_pos (by grind),← hall,← hnf,hpc,← hfp]; first | (rw [if_pos (by omega)]; done) | (rw [if_neg (by omega),if_pos (by first | omega | simp_all)]; done) | (rw [if_neg (by omega),if_neg (by first | omega | simp_all)]; done))
 exact ⟨[.agg (rcvL r (.slice v1a r.held.length v1c)).toArray],by kernel_rfl,fun w' hb hf ha => by rw [hmod]; exact xo1 ((v1a,v1c)) rfl rfl (pO (hf _ m0) hB) hb⟩
 have h2n := not_f h2
 have hrk := h2n
 obtain ⟨hf0,hf1,hf2,hf3,hf4,hheld⟩ := rok_facts h2n
 have hwb := windowOf_bd r
 have hN := slotsOf_len r
 obtain ⟨W,hW⟩ : ∃ W : Nat,windowOf r = (W : Int) := ⟨(windowOf r).toNat,by omega⟩
 have hW2 : W ≤ 32 := by omega
 have hM : (if r.fin = -1 then windowOf r else r.fin) ≤ (W : Int) := by split <;> omega
 refine kED [1,2,3,4,8,9,32] [(32,.v (.bool r.done))] ?_
 refine kC (r.done) (fun h3 => ?_) (fun h3 => ?_)
 refine kQ ?_
 refine kEU [8] [(8,.p 1 0)] 1 ⟨28,rcvL r (.slice v1a r.held.length v1c)⟩ ?_
 refine kR ?_
 have hmod : arrived r seq text fin = r := by first | exact arrived_over hrk (by assumption) (by rw [← hall,← hnf,hpc]; omega) | (unfold arrived; rw [if_neg (by grind)]; done) | (unfold arrived; rw [if_pos (by grind),← hall,← hnf,hpc,← hfp]; first | (rw [if_pos (by omega)]; done) | (rw [if_neg (by omega),if_pos (by first | omega | simp_all)]; done) | (rw [if_neg (by omega),if_neg (by first | omega | simp_all)]; done))
 exact ⟨[.agg (rcvL r (.slice v1a r.held.length v1c)).toArray],by kernel_rfl,fun w' hb hf ha => by rw [hmod]; exact xo1 ((v1a,v1c)) rfl rfl (pO (hf _ m0) hB) hb⟩
 refine kK ?_
 refine kQ ?_
 refine kCD 1 [1,2,3,4,8,9,34] [(34,.v (.agg (rcvL r (.slice Arh r.held.length Crh)).toArray))] 41 [.agg (rcvL r (.slice Arh r.held.length Crh)).toArray] (some 35) rfl (xc_b fun ww hf => iWindowOf_c r.next r.data r.held (.slice Arh r.held.length Crh) r.fin r.done ww (by omega)) ?_
 intro _
 refine kRS 1 [1,2,3,4,8,9,10] [(1,.v (.int .i64 seq)),(2,.v (.string text)),(3,.v (.bool fin)),(4,.p 0 0),(8,.p 1 0),(9,.p 2 0),(10,.v (.int .i64 (windowOf r)))] ?_
 refine xl_eqS (t' := [(1,.v (.int .i64 seq)),(2,.v (.string text)),(3,.v (.bool fin)),(4,.p 0 0),(8,.p 1 0),(9,.p 2 0),(10,.v (.int .i64 (W : Int)))]) (by rw [show (windowOf r) = (W : Int) from hW]) ?_
 refine kED [1,2,3,4,8,9,10] [] ?_
 refine kQ ?_
 refine kHD 1 [1,2,3,4,8,9,10,36] [(36,.v (.int .i64 (W : Int)))] rfl (hv_make (kl := .i64) (kc := .i64) (e := 5) (K := 1) (bytes := 1) (m := W) (z := .int .u8 0) (rs := (List.replicate W 0).map byteRow) rfl (by kernel_rfl) (by kernel_rfl) (by kernel_rfl) (by kernel_rfl) (by (try simp only [List.length_map,List.length_append,List.length_cons,List.length_nil,List.length_take,List.length_drop,maxLen]); omega) (by (try simp only [List.length_map,List.length_append,List.length_cons,List.length_nil,List.length_take,List.length_drop,maxLen]); omega) (by rw [List.map_replicate]; rfl)) ?_
 intro g4
 refine kEA [1,2,3,4,8,9,10,11] [(11,.p 3 0)] [⟨59,[.slice (some ⟨g4,0,none⟩) W W]⟩] ?_
 refine kQ ?_
 refine kHD 1 [1,2,3,4,8,9,10,11,38] [(38,.v (.int .i64 (W : Int)))] rfl (hv_make (kl := .i64) (kc := .i64) (e := 4) (K := 1) (bytes := 1) (m := W) (z := .bool false) (rs := (List.replicate W false).map boolRow) rfl (by kernel_rfl) (by kernel_rfl) (by kernel_rfl) (by kernel_rfl) (by (try simp only [List.length_map,List.length_append,List.length_cons,List.length_nil,List.length_take,List.length_drop,maxLen]); omega) (by (try simp only [List.length_map,List.length_append,List.length_cons,List.length_nil,List.length_take,List.length_drop,maxLen]); omega) (by rw [List.map_replicate]; rfl)) ?_
 intro g5
 refine kEA [1,2,3,4,8,9,10,11,12] [(12,.p 4 0)] [⟨78,[.slice (some ⟨g5,0,none⟩) W W]⟩] ?_
 refine kS ?_
 refine xw_pinB 12 78 [.slice (some ⟨g5,0,none⟩) W W] [⟨28,rcvL r (.slice Arh r.held.length Crh)⟩,⟨28,rcvZ⟩,⟨28,rcvL r (.slice v1a r.held.length v1c)⟩,⟨59,[.slice (some ⟨g4,0,none⟩) W W]⟩] rfl (by kernel_rfl) (by kernel_rfl) ?_
 intro gh hgh hghn
 refine xw_pinB 11 59 [.slice (some ⟨g4,0,none⟩) W W] [⟨28,rcvL r (.slice Arh r.held.length Crh)⟩,⟨28,rcvZ⟩,⟨28,rcvL r (.slice v1a r.held.length v1c)⟩] rfl (by kernel_rfl) (by kernel_rfl) ?_
 intro gd hgd hgdn
 refine xw_wk (wk_pick [1,0,2,3,4,5] [cellF w.heap.size gh 78 [.slice (some ⟨g5,0,none⟩) W W],cellF w.heap.size gd 59 [.slice (some ⟨g4,0,none⟩) W W],rowF w.heap.size 4 1 (.slice (some ⟨g5,0,none⟩) W W) ((List.replicate W false).map boolRow),rowF w.heap.size 5 1 (.slice (some ⟨g4,0,none⟩) W W) ((List.replicate W 0).map byteRow),ownF w.heap.size (.slice v1a r.held.length v1c) 2 (r.held.map pceCells),slF (.slice Arh r.held.length Crh) 2 (r.held.map pceCells)] (by kernel_rfl) (by kernel_rfl)) ?_
 refine xw_turnF (fs' := [arrF w.heap.size gh gd g5 g4 78 59 4 5 W (List.replicate 33 (-1)),ownF w.heap.size (.slice v1a r.held.length v1c) 2 (r.held.map pceCells),slF (.slice Arh r.held.length Crh) 2 (r.held.map pceCells)]) (fun ρ σ w' h => by rw [arrF,hvOf_start (by omega),dtOf_start (by omega)]; exact all_in (hs := [ownF w.heap.size (.slice v1a r.held.length v1c) 2 (r.held.map pceCells),slF (.slice Arh r.held.length Crh) 2 (r.held.map pceCells)]) (own4 rfl rfl rfl rfl) ρ σ w' h) ?_
 refine kG ?_
 refine kOF 0 [1,2,3,4,8,9,10,11,12] ⟨[(1,.v (.int .i64 seq)),(2,.v (.string text)),(3,.v (.bool fin)),(4,.p 0 0),(8,.p 1 0),(9,.p 2 0),(10,.v (.int .i64 (W : Int))),(11,.v (.pointer (some ⟨gd,0,none⟩))),(12,.v (.pointer (some ⟨gh,0,none⟩)))],[⟨28,rcvL r (.slice Arh r.held.length Crh)⟩,⟨28,rcvZ⟩,⟨28,rcvL r (.slice v1a r.held.length v1c)⟩],[],[arrF w.heap.size gh gd g5 g4 78 59 4 5 W (List.replicate 33 (-1)),ownF w.heap.size (.slice v1a r.held.length v1c) 2 (r.held.map pceCells),slF (.slice Arh r.held.length Crh) 2 (r.held.map pceCells)]⟩ (.func (.func 42) #[] #[.pointer (some ⟨gh,0,none⟩),.pointer (some ⟨gd,0,none⟩)]) rfl (fun _ _ _ ww hr => act_mkf [.pointer (some ⟨gh,0,none⟩),.pointer (some ⟨gd,0,none⟩)] hr.1 rfl (by kernel_rfl) ww) ?_
 refine kED [1,2,3,4,8,9,10,11,12,13] [(13,.v (.func (.func 42) #[] #[.pointer (some ⟨gh,0,none⟩),.pointer (some ⟨gd,0,none⟩)]))] ?_
 refine kS ?_
 refine kQ ?_
 refine kED [1,2,3,4,8,9,10,11,12,13,42,43,44] [(42,.v (.slice Arh r.held.length Crh)),(43,.v (.int .i64 ((r.held.length : Nat) : Int))),(44,.v (.int .i64 0))] ?_
 refine xw_block ?_
 refine xw_loopW (α := {x : Nat × List Int × Int // (fun (i : Nat) (l2 : List Int) (e : Int) => i ≤ r.held.length ∧ l2.length = 33 ∧ slotsOf r = putHeld l2 (r.held.drop i) ∧ heldOk (if r.fin = -1 then windowOf r else r.fin) e (r.held.drop i) = true ∧ 0 ≤ e ∧ e ≤ (W : Int) ∧ (∀ j,e.toNat ≤ j → j < 33 → l2[j]? = some (-1))) x.1 x.2.1 x.2.2}) (fun x => (fun (i : Nat) (l2 : List Int) (e : Int) => (⟨[(1,.v (.int .i64 seq)),(2,.v (.string text)),(3,.v (.bool fin)),(4,.p 0 0),(8,.p 1 0),(9,.p 2 0),(10,.v (.int .i64 (W : Int))),(11,.v (.pointer (some ⟨gd,0,none⟩))),(12,.v (.pointer (some ⟨gh,0,none⟩))),(13,.v (.func (.func 42) #[] #[.pointer (some ⟨gh,0,none⟩),.pointer (some ⟨gd,0,none⟩)])),(42,.v (.slice Arh r.held.length Crh)),(43,.v (.int .i64 ((r.held.length : Nat) : Int))),(44,.v (.int .i64 (i : Int)))],[⟨28,rcvL r (.slice Arh r.held.length Crh)⟩,⟨28,rcvZ⟩,⟨28,rcvL r (.slice v1a r.held.length v1c)⟩],[],[arrF w.heap.size gh gd g5 g4 78 59 4 5 W l2,ownF w.heap.size (.slice v1a r.held.length v1c) 2 (r.held.map pceCells),slF (.slice Arh r.held.length Crh) 2 (r.held.map pceCells)]⟩ : St)) x.1.1 x.1.2.1 x.1.2.2) (fun x => (fun (i : Nat) (l2 : List Int) (e : Int) => r.held.length - i) x.1.1 x.1.2.1 x.1.2.2) ⟨(0,(List.replicate 33 (-1)),0),⟨Nat.zero_le _,(by simp),rfl,rok_held hrk,Int.le_refl _,(by dsimp only; omega),(fun j h1 h2 => by rw [List.getElem?_replicate,if_pos h2])⟩⟩ ((wk_pick [0,1,2] [arrF w.heap.size gh gd g5 g4 78 59 4 5 W (List.replicate 33 (-1)),ownF w.heap.size (.slice v1a r.held.length v1c) 2 (r.held.map pceCells),slF (.slice Arh r.held.length Crh) 2 (r.held.map pceCells)] (by kernel_rfl) (by kernel_rfl)).trans <| kF 3 0 [1,2,3,4,8,9,10,11,12,13,42,43,44]) ?_
 rintro ⟨⟨i,l2,e⟩,hi,hl2,H2,hk,he0,heW,hfr⟩
 try dsimp only
 try dsimp only at hi hl2 H2 hk he0 heW hfr
 refine kQ ?_
 refine kED [1,2,3,4,8,9,10,11,12,13,42,43,44,45] [(45,.v (.bool (decide ((i : Int) < ((r.held.length : Nat) : Int)))))] ?_
 refine kS ?_
 refine kC (decide ((i : Int) < ((r.held.length : Nat) : Int))) (fun h6 => ?_) (fun h6 => ?_)
 have h6p := of_decide_eq_true h6
 have hlt2 : i < r.held.length := by simpa using h6
 obtain ⟨pp,hx⟩ : ∃ p,r.held[i]? = some p := ⟨_,List.getElem?_eq_getElem hlt2⟩
 have hin := hheld pp (List.mem_of_getElem? hx)
 obtain ⟨hst1,hst2,hst3⟩ := held_step hk hx
 have hpW : pp.off + (pp.text.size : Int) ≤ (W : Int) := Int.le_trans hst2 hM
 refine kK ?_
 refine kS ?_
 refine xw_block ?_
 refine kQ ?_
 refine xl_indexD (kd := .i64) (T := 26) (e := 81) (K := 2) 0 [1,2,3,4,8,9,10,11,12,13,42,43,44] [] i [.int .i64 pp.off,.string pp.text] (slF (.slice Arh r.held.length Crh) 2 (r.held.map pceCells)) (by kernel_rfl) rfl (by kernel_rfl) rfl rfl (by kernel_rfl) (by kernel_rfl) (by kernel_rfl) (by kernel_rfl) hlt2 (by simp) (fun w h => h) (fun b h => h) (by simp only [List.getElem?_map,hx]; rfl) ?_
 refine kEA [1,2,3,4,8,9,10,11,12,13,15,42,43,44] [(15,.p 3 0)] [⟨81,pceL pp⟩] ?_
 refine kQ ?_
 refine kED [1,2,3,4,8,9,10,11,12,13,15,42,43,44,50,51] [(50,.v (.int .i64 (pp.text.size : Int))),(51,.v (.int .i64 0))] ?_
 refine xw_block ?_
 refine xw_wk (wkf (s' := ⟨[(1,.v (.int .i64 seq)),(2,.v (.string text)),(3,.v (.bool fin)),(4,.p 0 0),(8,.p 1 0),(9,.p 2 0),(10,.v (.int .i64 (W : Int))),(11,.v (.pointer (some ⟨gd,0,none⟩))),(12,.v (.pointer (some ⟨gh,0,none⟩))),(13,.v (.func (.func 42) #[] #[.pointer (some ⟨gh,0,none⟩),.pointer (some ⟨gd,0,none⟩)])),(15,.p 3 0),(42,.v (.slice Arh r.held.length Crh)),(43,.v (.int .i64 ((r.held.length : Nat) : Int))),(44,.v (.int .i64 (i : Int))),(50,.v (.int .i64 (pp.text.size : Int))),(51,.v (.int .i64 0))],[⟨28,rcvL r (.slice Arh r.held.length Crh)⟩,⟨28,rcvZ⟩,⟨28,rcvL r (.slice v1a r.held.length v1c)⟩,⟨81,pceL pp⟩],[],[arrF w.heap.size gh gd g5 g4 78 59 4 5 W l2,ownF w.heap.size (.slice v1a r.held.length v1c) 2 (r.held.map pceCells),slF (.slice Arh r.held.length Crh) 2 (r.held.map pceCells)]⟩) 4 0 [1,2,3,4,8,9,10,11,12,13,15,42,43,44,50,51] (by kernel_rfl)) ?_
 refine xw_loopW (α := {x : Nat × List Int // (fun (q : Nat) (l3 : List Int) => q ≤ pp.text.size ∧ l3.length = 33 ∧ l3 = putText l2 pp.off.toNat pp.text q ∧ (∀ j,pp.off.toNat + q ≤ j → j < 33 → l3[j]? = some (-1))) x.1 x.2}) (fun x => (fun (q : Nat) (l3 : List Int) => (⟨[(1,.v (.int .i64 seq)),(2,.v (.string text)),(3,.v (.bool fin)),(4,.p 0 0),(8,.p 1 0),(9,.p 2 0),(10,.v (.int .i64 (W : Int))),(11,.v (.pointer (some ⟨gd,0,none⟩))),(12,.v (.pointer (some ⟨gh,0,none⟩))),(13,.v (.func (.func 42) #[] #[.pointer (some ⟨gh,0,none⟩),.pointer (some ⟨gd,0,none⟩)])),(15,.p 3 0),(42,.v (.slice Arh r.held.length Crh)),(43,.v (.int .i64 ((r.held.length : Nat) : Int))),(44,.v (.int .i64 (i : Int))),(50,.v (.int .i64 (pp.text.size : Int))),(51,.v (.int .i64 (q : Int)))],[⟨28,rcvL r (.slice Arh r.held.length Crh)⟩,⟨28,rcvZ⟩,⟨28,rcvL r (.slice v1a r.held.length v1c)⟩,⟨81,pceL pp⟩],[],[arrF w.heap.size gh gd g5 g4 78 59 4 5 W l3,ownF w.heap.size (.slice v1a r.held.length v1c) 2 (r.held.map pceCells),slF (.slice Arh r.held.length Crh) 2 (r.held.map pceCells)]⟩ : St)) x.1.1 x.1.2) (fun x => (fun (q : Nat) (l3 : List Int) => pp.text.size - q) x.1.1 x.1.2) ⟨(0,l2),⟨Nat.zero_le _,hl2,rfl,(fun j h1 h2 => hfr j (by omega) h2)⟩⟩ ((wk_pick [0,1,2] [arrF w.heap.size gh gd g5 g4 78 59 4 5 W l2,ownF w.heap.size (.slice v1a r.held.length v1c) 2 (r.held.map pceCells),slF (.slice Arh r.held.length Crh) 2 (r.held.map pceCells)] (by kernel_rfl) (by kernel_rfl)).trans <| kF 4 0 [1,2,3,4,8,9,10,11,12,13,15,42,43,44,50,51]) ?_
 rintro ⟨⟨q,l3⟩,hq,hl3,H3,hfr3⟩
 try dsimp only
 try dsimp only at hq hl3 H3 hfr3
 refine kQ ?_
 refine kED [1,2,3,4,8,9,10,11,12,13,15,42,43,44,50,51,52] [(52,.v (.bool (decide ((q : Int) < (pp.text.size : Int)))))] ?_
 refine kS ?_
 refine kC (decide ((q : Int) < (pp.text.size : Int))) (fun h7 => ?_) (fun h7 => ?_)
 have h7p := of_decide_eq_true h7
 have hlt3 : q < pp.text.size := by simpa using h7
 have hbr := byteAt_rng pp.text q
 have hfz := hfr3 (pp.off.toNat + q) (Nat.le_refl _) (by omega)
 refine kK ?_
 refine kS ?_
 refine xw_block ?_
 refine kQ ?_
 refine kED [1,2,3,4,8,9,10,11,12,13,15,16,42,43,44,50,51] [(16,.v (.int .i64 (q : Int)))] ?_
 refine xe_region0 [] (by kernel_rfl) (fun ρ σ => ?_)
 refine kTS [0,1,2,3,4,5,6,7] [61,60,58,54,1,2,3,4,8,9,10,11,12,13,15,42,43,44,50,51] 2 [(61,.v (.int .i64 (q : Int))),(60,.v (.string pp.text)),(58,.v (.int .i64 (IntKind.i64.wrap (pp.off + (q : Int))))),(54,.v (.func (.func 42) #[] #[.pointer (some ⟨gh,0,none⟩),.pointer (some ⟨gd,0,none⟩)])),(1,.v (.int .i64 seq)),(2,.v (.string text)),(3,.v (.bool fin)),(4,.p 0 0),(8,.p 1 0),(9,.p 2 0),(10,.v (.int .i64 (W : Int))),(11,.v (.pointer (some ⟨gd,0,none⟩))),(12,.v (.pointer (some ⟨gh,0,none⟩))),(13,.v (.func (.func 42) #[] #[.pointer (some ⟨gh,0,none⟩),.pointer (some ⟨gd,0,none⟩)])),(15,.p 3 0),(42,.v (.slice Arh r.held.length Crh)),(43,.v (.int .i64 ((r.held.length : Nat) : Int))),(44,.v (.int .i64 (i : Int))),(50,.v (.int .i64 (pp.text.size : Int))),(51,.v (.int .i64 (q : Int)))] ?_
 refine xe_eqS (t := [(61,.v (.int .i64 (q : Int))),(60,.v (.string pp.text)),(58,.v (.int .i64 (IntKind.i64.wrap (pp.off + (q : Int))))),(54,.v (.func (.func 42) #[] #[.pointer (some ⟨gh,0,none⟩),.pointer (some ⟨gd,0,none⟩)])),(1,.v (.int .i64 seq)),(2,.v (.string text)),(3,.v (.bool fin)),(4,.p 0 0),(8,.p 1 0),(9,.p 2 0),(10,.v (.int .i64 (W : Int))),(11,.v (.pointer (some ⟨gd,0,none⟩))),(12,.v (.pointer (some ⟨gh,0,none⟩))),(13,.v (.func (.func 42) #[] #[.pointer (some ⟨gh,0,none⟩),.pointer (some ⟨gd,0,none⟩)])),(15,.p 3 0),(42,.v (.slice Arh r.held.length Crh)),(43,.v (.int .i64 ((r.held.length : Nat) : Int))),(44,.v (.int .i64 (i : Int))),(50,.v (.int .i64 (pp.text.size : Int))),(51,.v (.int .i64 (q : Int)))]) (t' := [(61,.v (.int .i64 (q : Int))),(60,.v (.string pp.text)),(58,.v (.int .i64 ((pp.off.toNat + q : Nat) : Int))),(54,.v (.func (.func 42) #[] #[.pointer (some ⟨gh,0,none⟩),.pointer (some ⟨gd,0,none⟩)])),(1,.v (.int .i64 seq)),(2,.v (.string text)),(3,.v (.bool fin)),(4,.p 0 0),(8,.p 1 0),(9,.p 2 0),(10,.v (.int .i64 (W : Int))),(11,.v (.pointer (some ⟨gd,0,none⟩))),(12,.v (.pointer (some ⟨gh,0,none⟩))),(13,.v (.func (.func 42) #[] #[.pointer (some ⟨gh,0,none⟩),.pointer (some ⟨gd,0,none⟩)])),(15,.p 3 0),(42,.v (.slice Arh r.held.length Crh)),(43,.v (.int .i64 ((r.held.length : Nat) : Int))),(44,.v (.int .i64 (i : Int))),(50,.v (.int .i64 (pp.text.size : Int))),(51,.v (.int .i64 (q : Int)))]) (by rw [show (IntKind.i64.wrap (pp.off + (q : Int))) = ((pp.off.toNat + q : Nat) : Int) from by rw [wrap_id (by omega) (by omega)]; omega]) ?_
 refine kX 8 (.int .u8 (byteAt pp.text q)) rfl (fun _ _ ww hA => act_tix (kd := .i64) (t := pp.text) q hA rfl rfl (by kernel_rfl) (by kernel_rfl) hlt3 ww) ?_
 refine kA [9] ?_
 refine xs_callWC 9 42 [.int .i64 ((pp.off.toNat + q : Nat) : Int),.int .u8 (byteAt pp.text q),.pointer (some ⟨gh,0,none⟩),.pointer (some ⟨gd,0,none⟩)] (some 63) 0 (arrF w.heap.size gh gd g5 g4 78 59 4 5 W l3) rfl (by kernel_rfl) rfl (by kernel_rfl) rfl rfl (fun ww b h hb => arrF_lo h hb) (by kernel_rfl) (under_t (under_t (under_t (under_t under_nil)))) rfl (xcm_arr fun ww hw hf => arrStore_c w.heap.size gh gd g5 g4 W (pp.off.toNat + q) l3 (byteAt pp.text q) ww hw (hf (arrF w.heap.size gh gd g5 g4 78 59 4 5 W l3) (by simp)) (by omega) (by omega) hbr) ?_
 intro _
 refine kZ ?_
 refine kG ?_
 refine kRS 2 [1,2,3,4,8,9,10,11,12,13,15,42,43,44,50,51] [(1,.v (.int .i64 seq)),(2,.v (.string text)),(3,.v (.bool fin)),(4,.p 0 0),(8,.p 1 0),(9,.p 2 0),(10,.v (.int .i64 (W : Int))),(11,.v (.pointer (some ⟨gd,0,none⟩))),(12,.v (.pointer (some ⟨gh,0,none⟩))),(13,.v (.func (.func 42) #[] #[.pointer (some ⟨gh,0,none⟩),.pointer (some ⟨gd,0,none⟩)])),(15,.p 3 0),(42,.v (.slice Arh r.held.length Crh)),(43,.v (.int .i64 ((r.held.length : Nat) : Int))),(44,.v (.int .i64 (i : Int))),(50,.v (.int .i64 (pp.text.size : Int))),(51,.v (.int .i64 (IntKind.i64.wrap ((q : Int) + 1))))] ?_
 refine xl_eqS (t' := [(1,.v (.int .i64 seq)),(2,.v (.string text)),(3,.v (.bool fin)),(4,.p 0 0),(8,.p 1 0),(9,.p 2 0),(10,.v (.int .i64 (W : Int))),(11,.v (.pointer (some ⟨gd,0,none⟩))),(12,.v (.pointer (some ⟨gh,0,none⟩))),(13,.v (.func (.func 42) #[] #[.pointer (some ⟨gh,0,none⟩),.pointer (some ⟨gd,0,none⟩)])),(15,.p 3 0),(42,.v (.slice Arh r.held.length Crh)),(43,.v (.int .i64 ((r.held.length : Nat) : Int))),(44,.v (.int .i64 (i : Int))),(50,.v (.int .i64 (pp.text.size : Int))),(51,.v (.int .i64 ((q : Int) + 1)))]) (by rw [show (IntKind.i64.wrap ((q : Int) + 1)) = ((q : Int) + 1) from wrap_id (by omega) (by omega)]) ?_
 refine kED [1,2,3,4,8,9,10,11,12,13,15,42,43,44,50,51] [] ?_
 exact ⟨⟨(q + 1,(stOne l3 (pp.off.toNat + q) (byteAt pp.text q))),⟨hlt3,(by rw [stOne_len]; exact hl3),(by rw [stOne_free hfz (by decide),H3]; rfl),(fun j h1 h2 => by rw [stOne_far (by omega)]; exact hfr3 j (by omega) h2)⟩⟩,kF 4 0 [1,2,3,4,8,9,10,11,12,13,15,42,43,44,50,51],by show (fun (q : Nat) (l3 : List Int) => pp.text.size - q) (q + 1) (stOne l3 (pp.off.toNat + q) (byteAt pp.text q)) < pp.text.size - q; (dsimp only; omega)⟩
 have h7p := of_decide_eq_false h7
 have hq3 : q = pp.text.size := by simp at h7; omega
 refine xw_exit ?_
 refine kG ?_
 refine kRS 2 [1,2,3,4,8,9,10,11,12,13,42,43,44] [(1,.v (.int .i64 seq)),(2,.v (.string text)),(3,.v (.bool fin)),(4,.p 0 0),(8,.p 1 0),(9,.p 2 0),(10,.v (.int .i64 (W : Int))),(11,.v (.pointer (some ⟨gd,0,none⟩))),(12,.v (.pointer (some ⟨gh,0,none⟩))),(13,.v (.func (.func 42) #[] #[.pointer (some ⟨gh,0,none⟩),.pointer (some ⟨gd,0,none⟩)])),(42,.v (.slice Arh r.held.length Crh)),(43,.v (.int .i64 ((r.held.length : Nat) : Int))),(44,.v (.int .i64 (IntKind.i64.wrap ((i : Int) + 1))))] ?_
 refine xl_eqS (t' := [(1,.v (.int .i64 seq)),(2,.v (.string text)),(3,.v (.bool fin)),(4,.p 0 0),(8,.p 1 0),(9,.p 2 0),(10,.v (.int .i64 (W : Int))),(11,.v (.pointer (some ⟨gd,0,none⟩))),(12,.v (.pointer (some ⟨gh,0,none⟩))),(13,.v (.func (.func 42) #[] #[.pointer (some ⟨gh,0,none⟩),.pointer (some ⟨gd,0,none⟩)])),(42,.v (.slice Arh r.held.length Crh)),(43,.v (.int .i64 ((r.held.length : Nat) : Int))),(44,.v (.int .i64 ((i : Int) + 1)))]) (by rw [show (IntKind.i64.wrap ((i : Int) + 1)) = ((i : Int) + 1) from wrap_id (by omega) (by omega)]) ?_
 refine kED [1,2,3,4,8,9,10,11,12,13,42,43,44] [] ?_
 exact ⟨⟨(i + 1,l3,(pp.off + (pp.text.size : Int))),⟨hlt2,hl3,(by rw [H2,drop_cons_of hx,putHeld,← hq3,← H3]),hst3,(by dsimp only; omega),hpW,(fun j h1 h2 => hfr3 j (by dsimp only at h1; omega) h2)⟩⟩,kF 3 0 [1,2,3,4,8,9,10,11,12,13,42,43,44],by show (fun (i : Nat) (l2 : List Int) (e : Int) => r.held.length - i) (i + 1) l3 (pp.off + (pp.text.size : Int)) < r.held.length - i; (dsimp only; omega)⟩
 have h6p := of_decide_eq_false h6
 have hi2 : i = r.held.length := by simp at h6; omega
 rw [hi2,List.drop_length] at H2; simp only [putHeld] at H2
 refine xw_exit ?_
 refine kS ?_
 refine kQ ?_
 refine kED [1,2,3,4,8,9,10,11,12,13,67,68] [(67,.v (.int .i64 (text.size : Int))),(68,.v (.int .i64 0))] ?_
 refine xw_block ?_
 refine xw_loopW (α := {x : Nat × List Int // (fun (i : Nat) (sl : List Int) => i ≤ text.size ∧ sl.length = 33 ∧ sl = textN r seq text (slotsOf r) i ∧ (∀ j,W ≤ j → j < 33 → sl[j]? = some (-1))) x.1 x.2}) (fun x => (fun (i : Nat) (sl : List Int) => (⟨[(1,.v (.int .i64 seq)),(2,.v (.string text)),(3,.v (.bool fin)),(4,.p 0 0),(8,.p 1 0),(9,.p 2 0),(10,.v (.int .i64 (W : Int))),(11,.v (.pointer (some ⟨gd,0,none⟩))),(12,.v (.pointer (some ⟨gh,0,none⟩))),(13,.v (.func (.func 42) #[] #[.pointer (some ⟨gh,0,none⟩),.pointer (some ⟨gd,0,none⟩)])),(67,.v (.int .i64 (text.size : Int))),(68,.v (.int .i64 (i : Int)))],[⟨28,rcvL r (.slice Arh r.held.length Crh)⟩,⟨28,rcvZ⟩,⟨28,rcvL r (.slice v1a r.held.length v1c)⟩],[],[arrF w.heap.size gh gd g5 g4 78 59 4 5 W sl,ownF w.heap.size (.slice v1a r.held.length v1c) 2 (r.held.map pceCells),slF (.slice Arh r.held.length Crh) 2 (r.held.map pceCells)]⟩ : St)) x.1.1 x.1.2) (fun x => (fun (i : Nat) (sl : List Int) => text.size - i) x.1.1 x.1.2) ⟨(0,l2),⟨Nat.zero_le _,hl2,H2.symm,(fun j h1 h2 => hfr j (by omega) h2)⟩⟩ ((wk_pick [0,1,2] [arrF w.heap.size gh gd g5 g4 78 59 4 5 W l2,ownF w.heap.size (.slice v1a r.held.length v1c) 2 (r.held.map pceCells),slF (.slice Arh r.held.length Crh) 2 (r.held.map pceCells)] (by kernel_rfl) (by kernel_rfl)).trans <| kF 3 0 [1,2,3,4,8,9,10,11,12,13,67,68]) ?_
 rintro ⟨⟨i,sl⟩,hi,hl,HS,hbe⟩
 try dsimp only
 try dsimp only at hi hl HS hbe
 refine kQ ?_
 refine kED [1,2,3,4,8,9,10,11,12,13,67,68,69] [(69,.v (.bool (decide ((i : Int) < (text.size : Int)))))] ?_
 refine kS ?_
 refine kC (decide ((i : Int) < (text.size : Int))) (fun h8 => ?_) (fun h8 => ?_)
 have h8p := of_decide_eq_true h8
 have hlti : i < text.size := by simpa using h8
 have hbr := byteAt_rng text i
 have hsq := seqAdd_in seq (i : Int)
 refine kK ?_
 refine kS ?_
 refine xw_block ?_
 refine kQ ?_
 refine kED [1,2,3,4,8,9,10,11,12,13,17,67,68] [(17,.v (.int .i64 (i : Int)))] ?_
 refine kS ?_
 refine xe_region0 [] (by kernel_rfl) (fun ρ σ => ?_)
 refine kTS [0,1,3,4] [75,72,71,1,2,3,4,8,9,10,11,12,13,17,67,68] 3 [(75,.v (.int .i64 r.next)),(72,.v (.int .i64 (i : Int))),(71,.v (.int .i64 seq)),(1,.v (.int .i64 seq)),(2,.v (.string text)),(3,.v (.bool fin)),(4,.p 0 0),(8,.p 1 0),(9,.p 2 0),(10,.v (.int .i64 (W : Int))),(11,.v (.pointer (some ⟨gd,0,none⟩))),(12,.v (.pointer (some ⟨gh,0,none⟩))),(13,.v (.func (.func 42) #[] #[.pointer (some ⟨gh,0,none⟩),.pointer (some ⟨gd,0,none⟩)])),(17,.v (.int .i64 (i : Int))),(67,.v (.int .i64 (text.size : Int))),(68,.v (.int .i64 (i : Int)))] ?_
 refine kA [2] ?_
 refine kSC 2 26 [.int .i64 seq,.int .i64 (i : Int)] (some 73) rfl (xc_s fun ww hf => iSeqAdd_c seq (i : Int) ww ) ?_
 intro _
 refine kA [5] ?_
 refine kSC 5 43 [.int .i64 (seqAdd seq (i : Int)),.int .i64 r.next] (some 76) rfl (xc_s fun ww hf => ahead_c (seqAdd seq (i : Int)) r.next ww ) ?_
 intro _
 refine xe_eqS (t := [(76,.v (.int .i64 (((seqAdd seq (i : Int)) - r.next) % 4294967296))),(73,.v (.int .i64 (seqAdd seq (i : Int)))),(75,.v (.int .i64 r.next)),(72,.v (.int .i64 (i : Int))),(71,.v (.int .i64 seq)),(1,.v (.int .i64 seq)),(2,.v (.string text)),(3,.v (.bool fin)),(4,.p 0 0),(8,.p 1 0),(9,.p 2 0),(10,.v (.int .i64 (W : Int))),(11,.v (.pointer (some ⟨gd,0,none⟩))),(12,.v (.pointer (some ⟨gh,0,none⟩))),(13,.v (.func (.func 42) #[] #[.pointer (some ⟨gh,0,none⟩),.pointer (some ⟨gd,0,none⟩)])),(17,.v (.int .i64 (i : Int))),(67,.v (.int .i64 (text.size : Int))),(68,.v (.int .i64 (i : Int)))]) (t' := [(76,.v (.int .i64 ((offN r seq i : Nat) : Int))),(73,.v (.int .i64 (seqAdd seq (i : Int)))),(75,.v (.int .i64 r.next)),(72,.v (.int .i64 (i : Int))),(71,.v (.int .i64 seq)),(1,.v (.int .i64 seq)),(2,.v (.string text)),(3,.v (.bool fin)),(4,.p 0 0),(8,.p 1 0),(9,.p 2 0),(10,.v (.int .i64 (W : Int))),(11,.v (.pointer (some ⟨gd,0,none⟩))),(12,.v (.pointer (some ⟨gh,0,none⟩))),(13,.v (.func (.func 42) #[] #[.pointer (some ⟨gh,0,none⟩),.pointer (some ⟨gd,0,none⟩)])),(17,.v (.int .i64 (i : Int))),(67,.v (.int .i64 (text.size : Int))),(68,.v (.int .i64 (i : Int)))]) (by rw [show (((seqAdd seq (i : Int)) - r.next) % 4294967296) = ((offN r seq i : Nat) : Int) from offN_eq r seq i]) ?_
 refine kTS [6] [18,1,2,3,4,8,9,10,11,12,13,17,67,68] 0 [(18,.v (.int .i64 ((offN r seq i : Nat) : Int))),(1,.v (.int .i64 seq)),(2,.v (.string text)),(3,.v (.bool fin)),(4,.p 0 0),(8,.p 1 0),(9,.p 2 0),(10,.v (.int .i64 (W : Int))),(11,.v (.pointer (some ⟨gd,0,none⟩))),(12,.v (.pointer (some ⟨gh,0,none⟩))),(13,.v (.func (.func 42) #[] #[.pointer (some ⟨gh,0,none⟩),.pointer (some ⟨gd,0,none⟩)])),(17,.v (.int .i64 (i : Int))),(67,.v (.int .i64 (text.size : Int))),(68,.v (.int .i64 (i : Int)))] ?_
 refine kZ ?_
 refine kQ ?_
 refine kRD 4 [1,2,3,4,8,9,10,11,12,13,17,18,67,68,80] [(80,.v (.bool (decide (((offN r seq i : Nat) : Int) < (W : Int)))))] ?_
 refine kP 80 (decide (((offN r seq i : Nat) : Int) < (W : Int))) (fun h9 => ?_) (fun h9 => ?_)
 have h9p := of_decide_eq_true h9
 refine kRD 4 [1,2,3,4,8,9,10,11,12,13,17,18,67,68,80,84] [(80,.v (.bool true)),(84,.v (.bool (r.fin == (-1))))] ?_
 refine kP 84 (r.fin == (-1)) (fun h10 => ?_) (fun h10 => ?_)
 have h10p := eqT h10
 refine kED [1,2,3,4,8,9,10,11,12,13,17,18,67,68,90] [(90,.v (.bool true))] ?_
 refine kT ?_
 refine kG ?_
 refine kOD 4 [1,2,3,4,8,9,10,11,12,13,67,68,91,92,93,94] [(91,.v (.func (.func 42) #[] #[.pointer (some ⟨gh,0,none⟩),.pointer (some ⟨gd,0,none⟩)])),(92,.v (.int .i64 ((offN r seq i : Nat) : Int))),(93,.v (.string text)),(94,.v (.int .i64 (i : Int)))] (.int .u8 (byteAt text i)) rfl (fun _ _ _ ww hr => act_tix (kd := .i64) (t := text) i hr.1 rfl rfl (by kernel_rfl) (by kernel_rfl) hlti ww) ?_
 refine xl_callWC 0 [1,2,3,4,8,9,10,11,12,13,67,68,91,92,95] ⟨[(1,.v (.int .i64 seq)),(2,.v (.string text)),(3,.v (.bool fin)),(4,.p 0 0),(8,.p 1 0),(9,.p 2 0),(10,.v (.int .i64 (W : Int))),(11,.v (.pointer (some ⟨gd,0,none⟩))),(12,.v (.pointer (some ⟨gh,0,none⟩))),(13,.v (.func (.func 42) #[] #[.pointer (some ⟨gh,0,none⟩),.pointer (some ⟨gd,0,none⟩)])),(67,.v (.int .i64 (text.size : Int))),(68,.v (.int .i64 (i : Int))),(91,.v (.func (.func 42) #[] #[.pointer (some ⟨gh,0,none⟩),.pointer (some ⟨gd,0,none⟩)])),(92,.v (.int .i64 ((offN r seq i : Nat) : Int))),(95,.v (.int .u8 (byteAt text i)))],[⟨28,rcvL r (.slice Arh r.held.length Crh)⟩,⟨28,rcvZ⟩,⟨28,rcvL r (.slice v1a r.held.length v1c)⟩],[],[arrF w.heap.size gh gd g5 g4 78 59 4 5 W sl,ownF w.heap.size (.slice v1a r.held.length v1c) 2 (r.held.map pceCells),slF (.slice Arh r.held.length Crh) 2 (r.held.map pceCells)]⟩ 42 [.int .i64 ((offN r seq i : Nat) : Int),.int .u8 (byteAt text i),.pointer (some ⟨gh,0,none⟩),.pointer (some ⟨gd,0,none⟩)] (some 96) 0 (arrF w.heap.size gh gd g5 g4 78 59 4 5 W sl) (by kernel_rfl) rfl (by kernel_rfl) rfl (by kernel_rfl) rfl rfl (fun ww b h hb => arrF_lo h hb) (by kernel_rfl) (xcm_arr fun ww hw hf => arrStore_c w.heap.size gh gd g5 g4 W (offN r seq i) sl (byteAt text i) ww hw (hf (arrF w.heap.size gh gd g5 g4 78 59 4 5 W sl) (by simp)) (by omega) (by omega) hbr) ?_
 intro _
 refine kED [1,2,3,4,8,9,10,11,12,13,67,68] [] ?_
 refine kG ?_
 refine kRS 2 [1,2,3,4,8,9,10,11,12,13,67,68] [(1,.v (.int .i64 seq)),(2,.v (.string text)),(3,.v (.bool fin)),(4,.p 0 0),(8,.p 1 0),(9,.p 2 0),(10,.v (.int .i64 (W : Int))),(11,.v (.pointer (some ⟨gd,0,none⟩))),(12,.v (.pointer (some ⟨gh,0,none⟩))),(13,.v (.func (.func 42) #[] #[.pointer (some ⟨gh,0,none⟩),.pointer (some ⟨gd,0,none⟩)])),(67,.v (.int .i64 (text.size : Int))),(68,.v (.int .i64 (IntKind.i64.wrap ((i : Int) + 1))))] ?_
 refine xl_eqS (t' := [(1,.v (.int .i64 seq)),(2,.v (.string text)),(3,.v (.bool fin)),(4,.p 0 0),(8,.p 1 0),(9,.p 2 0),(10,.v (.int .i64 (W : Int))),(11,.v (.pointer (some ⟨gd,0,none⟩))),(12,.v (.pointer (some ⟨gh,0,none⟩))),(13,.v (.func (.func 42) #[] #[.pointer (some ⟨gh,0,none⟩),.pointer (some ⟨gd,0,none⟩)])),(67,.v (.int .i64 (text.size : Int))),(68,.v (.int .i64 ((i : Int) + 1)))]) (by rw [show (IntKind.i64.wrap ((i : Int) + 1)) = ((i : Int) + 1) from wrap_id (by omega) (by omega)]) ?_
 refine kED [1,2,3,4,8,9,10,11,12,13,67,68] [] ?_
 exact ⟨⟨(i + 1,(stOne sl (offN r seq i) (byteAt text i))),⟨hlti,(by rw [stOne_len]; exact hl),(by rw [textN,← HS,text_yes (by rw [hW]; omega) (by omega)]),(fun j h1 h2 => by rw [stOne_far (by omega)]; exact hbe j h1 h2)⟩⟩,kF 3 0 [1,2,3,4,8,9,10,11,12,13,67,68],by show (fun (i : Nat) (sl : List Int) => text.size - i) (i + 1) (stOne sl (offN r seq i) (byteAt text i)) < text.size - i; (dsimp only; omega)⟩
 have h10p := eqF h10
 refine kED [1,2,3,4,8,9,10,11,12,13,17,18,67,68,90] [(90,.v (.bool (decide (((offN r seq i : Nat) : Int) < r.fin))))] ?_
 refine kC (decide (((offN r seq i : Nat) : Int) < r.fin)) (fun h11 => ?_) (fun h11 => ?_)
 have h11p := of_decide_eq_true h11
 refine kG ?_
 refine kOD 4 [1,2,3,4,8,9,10,11,12,13,67,68,91,92,93,94] [(91,.v (.func (.func 42) #[] #[.pointer (some ⟨gh,0,none⟩),.pointer (some ⟨gd,0,none⟩)])),(92,.v (.int .i64 ((offN r seq i : Nat) : Int))),(93,.v (.string text)),(94,.v (.int .i64 (i : Int)))] (.int .u8 (byteAt text i)) rfl (fun _ _ _ ww hr => act_tix (kd := .i64) (t := text) i hr.1 rfl rfl (by kernel_rfl) (by kernel_rfl) hlti ww) ?_
 refine xl_callWC 0 [1,2,3,4,8,9,10,11,12,13,67,68,91,92,95] ⟨[(1,.v (.int .i64 seq)),(2,.v (.string text)),(3,.v (.bool fin)),(4,.p 0 0),(8,.p 1 0),(9,.p 2 0),(10,.v (.int .i64 (W : Int))),(11,.v (.pointer (some ⟨gd,0,none⟩))),(12,.v (.pointer (some ⟨gh,0,none⟩))),(13,.v (.func (.func 42) #[] #[.pointer (some ⟨gh,0,none⟩),.pointer (some ⟨gd,0,none⟩)])),(67,.v (.int .i64 (text.size : Int))),(68,.v (.int .i64 (i : Int))),(91,.v (.func (.func 42) #[] #[.pointer (some ⟨gh,0,none⟩),.pointer (some ⟨gd,0,none⟩)])),(92,.v (.int .i64 ((offN r seq i : Nat) : Int))),(95,.v (.int .u8 (byteAt text i)))],[⟨28,rcvL r (.slice Arh r.held.length Crh)⟩,⟨28,rcvZ⟩,⟨28,rcvL r (.slice v1a r.held.length v1c)⟩],[],[arrF w.heap.size gh gd g5 g4 78 59 4 5 W sl,ownF w.heap.size (.slice v1a r.held.length v1c) 2 (r.held.map pceCells),slF (.slice Arh r.held.length Crh) 2 (r.held.map pceCells)]⟩ 42 [.int .i64 ((offN r seq i : Nat) : Int),.int .u8 (byteAt text i),.pointer (some ⟨gh,0,none⟩),.pointer (some ⟨gd,0,none⟩)] (some 96) 0 (arrF w.heap.size gh gd g5 g4 78 59 4 5 W sl) (by kernel_rfl) rfl (by kernel_rfl) rfl (by kernel_rfl) rfl rfl (fun ww b h hb => arrF_lo h hb) (by kernel_rfl) (xcm_arr fun ww hw hf => arrStore_c w.heap.size gh gd g5 g4 W (offN r seq i) sl (byteAt text i) ww hw (hf (arrF w.heap.size gh gd g5 g4 78 59 4 5 W sl) (by simp)) (by omega) (by omega) hbr) ?_
 intro _
 refine kED [1,2,3,4,8,9,10,11,12,13,67,68] [] ?_
 refine kG ?_
 refine kRS 2 [1,2,3,4,8,9,10,11,12,13,67,68] [(1,.v (.int .i64 seq)),(2,.v (.string text)),(3,.v (.bool fin)),(4,.p 0 0),(8,.p 1 0),(9,.p 2 0),(10,.v (.int .i64 (W : Int))),(11,.v (.pointer (some ⟨gd,0,none⟩))),(12,.v (.pointer (some ⟨gh,0,none⟩))),(13,.v (.func (.func 42) #[] #[.pointer (some ⟨gh,0,none⟩),.pointer (some ⟨gd,0,none⟩)])),(67,.v (.int .i64 (text.size : Int))),(68,.v (.int .i64 (IntKind.i64.wrap ((i : Int) + 1))))] ?_
 refine xl_eqS (t' := [(1,.v (.int .i64 seq)),(2,.v (.string text)),(3,.v (.bool fin)),(4,.p 0 0),(8,.p 1 0),(9,.p 2 0),(10,.v (.int .i64 (W : Int))),(11,.v (.pointer (some ⟨gd,0,none⟩))),(12,.v (.pointer (some ⟨gh,0,none⟩))),(13,.v (.func (.func 42) #[] #[.pointer (some ⟨gh,0,none⟩),.pointer (some ⟨gd,0,none⟩)])),(67,.v (.int .i64 (text.size : Int))),(68,.v (.int .i64 ((i : Int) + 1)))]) (by rw [show (IntKind.i64.wrap ((i : Int) + 1)) = ((i : Int) + 1) from wrap_id (by omega) (by omega)]) ?_
 refine kED [1,2,3,4,8,9,10,11,12,13,67,68] [] ?_
 exact ⟨⟨(i + 1,(stOne sl (offN r seq i) (byteAt text i))),⟨hlti,(by rw [stOne_len]; exact hl),(by rw [textN,← HS,text_yes (by rw [hW]; omega) (by omega)]),(fun j h1 h2 => by rw [stOne_far (by omega)]; exact hbe j h1 h2)⟩⟩,kF 3 0 [1,2,3,4,8,9,10,11,12,13,67,68],by show (fun (i : Nat) (sl : List Int) => text.size - i) (i + 1) (stOne sl (offN r seq i) (byteAt text i)) < text.size - i; (dsimp only; omega)⟩
 have h11p := of_decide_eq_false h11
 refine kK ?_
 refine kG ?_
 refine kRS 2 [1,2,3,4,8,9,10,11,12,13,67,68] [(1,.v (.int .i64 seq)),(2,.v (.string text)),(3,.v (.bool fin)),(4,.p 0 0),(8,.p 1 0),(9,.p 2 0),(10,.v (.int .i64 (W : Int))),(11,.v (.pointer (some ⟨gd,0,none⟩))),(12,.v (.pointer (some ⟨gh,0,none⟩))),(13,.v (.func (.func 42) #[] #[.pointer (some ⟨gh,0,none⟩),.pointer (some ⟨gd,0,none⟩)])),(67,.v (.int .i64 (text.size : Int))),(68,.v (.int .i64 (IntKind.i64.wrap ((i : Int) + 1))))] ?_
 refine xl_eqS (t' := [(1,.v (.int .i64 seq)),(2,.v (.string text)),(3,.v (.bool fin)),(4,.p 0 0),(8,.p 1 0),(9,.p 2 0),(10,.v (.int .i64 (W : Int))),(11,.v (.pointer (some ⟨gd,0,none⟩))),(12,.v (.pointer (some ⟨gh,0,none⟩))),(13,.v (.func (.func 42) #[] #[.pointer (some ⟨gh,0,none⟩),.pointer (some ⟨gd,0,none⟩)])),(67,.v (.int .i64 (text.size : Int))),(68,.v (.int .i64 ((i : Int) + 1)))]) (by rw [show (IntKind.i64.wrap ((i : Int) + 1)) = ((i : Int) + 1) from wrap_id (by omega) (by omega)]) ?_
 refine kED [1,2,3,4,8,9,10,11,12,13,67,68] [] ?_
 exact ⟨⟨(i + 1,sl),⟨hlti,hl,(by rw [textN,← HS,text_no (by rw [hW]; omega)]),hbe⟩⟩,kF 3 0 [1,2,3,4,8,9,10,11,12,13,67,68],by show (fun (i : Nat) (sl : List Int) => text.size - i) (i + 1) sl < text.size - i; (dsimp only; omega)⟩
 have h9p := of_decide_eq_false h9
 refine kED [1,2,3,4,8,9,10,11,12,13,17,18,67,68,90] [(90,.v (.bool false))] ?_
 refine kN ?_
 refine kK ?_
 refine kG ?_
 refine kRS 2 [1,2,3,4,8,9,10,11,12,13,67,68] [(1,.v (.int .i64 seq)),(2,.v (.string text)),(3,.v (.bool fin)),(4,.p 0 0),(8,.p 1 0),(9,.p 2 0),(10,.v (.int .i64 (W : Int))),(11,.v (.pointer (some ⟨gd,0,none⟩))),(12,.v (.pointer (some ⟨gh,0,none⟩))),(13,.v (.func (.func 42) #[] #[.pointer (some ⟨gh,0,none⟩),.pointer (some ⟨gd,0,none⟩)])),(67,.v (.int .i64 (text.size : Int))),(68,.v (.int .i64 (IntKind.i64.wrap ((i : Int) + 1))))] ?_
 refine xl_eqS (t' := [(1,.v (.int .i64 seq)),(2,.v (.string text)),(3,.v (.bool fin)),(4,.p 0 0),(8,.p 1 0),(9,.p 2 0),(10,.v (.int .i64 (W : Int))),(11,.v (.pointer (some ⟨gd,0,none⟩))),(12,.v (.pointer (some ⟨gh,0,none⟩))),(13,.v (.func (.func 42) #[] #[.pointer (some ⟨gh,0,none⟩),.pointer (some ⟨gd,0,none⟩)])),(67,.v (.int .i64 (text.size : Int))),(68,.v (.int .i64 ((i : Int) + 1)))]) (by rw [show (IntKind.i64.wrap ((i : Int) + 1)) = ((i : Int) + 1) from wrap_id (by omega) (by omega)]) ?_
 refine kED [1,2,3,4,8,9,10,11,12,13,67,68] [] ?_
 exact ⟨⟨(i + 1,sl),⟨hlti,hl,(by rw [textN,← HS,text_no (by rw [hW]; omega)]),hbe⟩⟩,kF 3 0 [1,2,3,4,8,9,10,11,12,13,67,68],by show (fun (i : Nat) (sl : List Int) => text.size - i) (i + 1) sl < text.size - i; (dsimp only; omega)⟩
 have h8p := of_decide_eq_false h8
 have hti : i = text.size := by simp at h8; omega
 subst hti
 have hall : sl = allIn r seq text := HS
 obtain ⟨E,hE⟩ : ∃ E : Nat,(seqAdd seq (text.size : Int) - r.next) % 4294967296 = ((E : Nat) : Int) ∧ offN r seq text.size = E := ⟨_,offN_eq r seq text.size,rfl⟩
 refine xw_exit ?_
 refine kS ?_
 refine xw_wk (wk_pick [0,1,2] [arrF w.heap.size gh gd g5 g4 78 59 4 5 W sl,ownF w.heap.size (.slice v1a r.held.length v1c) 2 (r.held.map pceCells),slF (.slice Arh r.held.length Crh) 2 (r.held.map pceCells)] (by kernel_rfl) (by kernel_rfl)) ?_
 refine xw_turnF (fs' := [cellF w.heap.size gh 78 [.slice (some ⟨g5,0,none⟩) W W],cellF w.heap.size gd 59 [.slice (some ⟨g4,0,none⟩) W W],rowF w.heap.size 4 1 (.slice (some ⟨g5,0,none⟩) W W) ((hvOf W sl).map boolRow),rowF w.heap.size 5 1 (.slice (some ⟨g4,0,none⟩) W W) ((dtOf W sl).map byteRow),ownF w.heap.size (.slice v1a r.held.length v1c) 2 (r.held.map pceCells),slF (.slice Arh r.held.length Crh) 2 (r.held.map pceCells)]) (fun ρ σ w' h => all_out (gs := [cellF w.heap.size gh 78 [.slice (some ⟨g5,0,none⟩) W W],cellF w.heap.size gd 59 [.slice (some ⟨g4,0,none⟩) W W],rowF w.heap.size 4 1 (.slice (some ⟨g5,0,none⟩) W W) ((hvOf W sl).map boolRow),rowF w.heap.size 5 1 (.slice (some ⟨g4,0,none⟩) W W) ((dtOf W sl).map byteRow)]) (hs := [ownF w.heap.size (.slice v1a r.held.length v1c) 2 (r.held.map pceCells),slF (.slice Arh r.held.length Crh) 2 (r.held.map pceCells)]) ρ σ w' h) ?_
 refine kG ?_
 refine kEF [1,2,3,4,8,9,10,11,12,19] ⟨[(1,.v (.int .i64 seq)),(2,.v (.string text)),(3,.v (.bool fin)),(4,.p 0 0),(8,.p 1 0),(9,.p 2 0),(10,.v (.int .i64 (W : Int))),(11,.v (.pointer (some ⟨gd,0,none⟩))),(12,.v (.pointer (some ⟨gh,0,none⟩))),(19,.p 3 0)],[⟨28,rcvL r (.slice Arh r.held.length Crh)⟩,⟨28,rcvZ⟩,⟨28,rcvL r (.slice v1a r.held.length v1c)⟩,⟨28,rcvL r (.slice Arh r.held.length Crh)⟩],[],[cellF w.heap.size gh 78 [.slice (some ⟨g5,0,none⟩) W W],cellF w.heap.size gd 59 [.slice (some ⟨g4,0,none⟩) W W],rowF w.heap.size 4 1 (.slice (some ⟨g5,0,none⟩) W W) ((hvOf W sl).map boolRow),rowF w.heap.size 5 1 (.slice (some ⟨g4,0,none⟩) W W) ((dtOf W sl).map byteRow),ownF w.heap.size (.slice v1a r.held.length v1c) 2 (r.held.map pceCells),slF (.slice Arh r.held.length Crh) 2 (r.held.map pceCells)]⟩ ?_
 refine kS ?_
 refine xe_region0 [] (by kernel_rfl) (fun ρ σ => ?_)
 refine kTS [0,1,2,4,5] [104,101,99,3,4,8,9,10,11,12,19] 3 [(104,.v (.int .i64 r.next)),(101,.v (.int .i64 (text.size : Int))),(99,.v (.int .i64 seq)),(3,.v (.bool fin)),(4,.p 0 0),(8,.p 1 0),(9,.p 2 0),(10,.v (.int .i64 (W : Int))),(11,.v (.pointer (some ⟨gd,0,none⟩))),(12,.v (.pointer (some ⟨gh,0,none⟩))),(19,.p 3 0)] ?_
 refine kA [3] ?_
 refine kSC 3 26 [.int .i64 seq,.int .i64 (text.size : Int)] (some 102) rfl (xc_s fun ww hf => iSeqAdd_c seq (text.size : Int) ww ) ?_
 intro _
 refine kA [6] ?_
 refine kSC 6 43 [.int .i64 (seqAdd seq (text.size : Int)),.int .i64 r.next] (some 105) rfl (xc_s fun ww hf => ahead_c (seqAdd seq (text.size : Int)) r.next ww ) ?_
 intro _
 refine xe_eqS (t := [(105,.v (.int .i64 (((seqAdd seq (text.size : Int)) - r.next) % 4294967296))),(102,.v (.int .i64 (seqAdd seq (text.size : Int)))),(104,.v (.int .i64 r.next)),(101,.v (.int .i64 (text.size : Int))),(99,.v (.int .i64 seq)),(3,.v (.bool fin)),(4,.p 0 0),(8,.p 1 0),(9,.p 2 0),(10,.v (.int .i64 (W : Int))),(11,.v (.pointer (some ⟨gd,0,none⟩))),(12,.v (.pointer (some ⟨gh,0,none⟩))),(19,.p 3 0)]) (t' := [(105,.v (.int .i64 (E : Int))),(102,.v (.int .i64 (seqAdd seq (text.size : Int)))),(104,.v (.int .i64 r.next)),(101,.v (.int .i64 (text.size : Int))),(99,.v (.int .i64 seq)),(3,.v (.bool fin)),(4,.p 0 0),(8,.p 1 0),(9,.p 2 0),(10,.v (.int .i64 (W : Int))),(11,.v (.pointer (some ⟨gd,0,none⟩))),(12,.v (.pointer (some ⟨gh,0,none⟩))),(19,.p 3 0)]) (by rw [show (((seqAdd seq (text.size : Int)) - r.next) % 4294967296) = (E : Int) from hE.1]) ?_
 refine kTS [7] [20,3,4,8,9,10,11,12,19] 0 [(20,.v (.int .i64 (E : Int))),(3,.v (.bool fin)),(4,.p 0 0),(8,.p 1 0),(9,.p 2 0),(10,.v (.int .i64 (W : Int))),(11,.v (.pointer (some ⟨gd,0,none⟩))),(12,.v (.pointer (some ⟨gh,0,none⟩))),(19,.p 3 0)] ?_
 refine kZ ?_
 refine kS ?_
 refine xw_joinF (α := {zz : Int // (fun (fo : Int) => fo = finIn r seq text fin ∧ (-1 ≤ fo ∧ fo ≤ 32)) zz}) (fun zz => (fun (fo : Int) => (⟨[(4,.p 0 0),(8,.p 1 0),(9,.p 2 0),(10,.v (.int .i64 (W : Int))),(11,.v (.pointer (some ⟨gd,0,none⟩))),(12,.v (.pointer (some ⟨gh,0,none⟩))),(19,.p 3 0)],[⟨28,rcvL r (.slice Arh r.held.length Crh)⟩,⟨28,rcvZ⟩,⟨28,rcvL r (.slice v1a r.held.length v1c)⟩,⟨28,rcvL { r with fin := fo } (.slice Arh r.held.length Crh)⟩],[],[cellF w.heap.size gh 78 [.slice (some ⟨g5,0,none⟩) W W],cellF w.heap.size gd 59 [.slice (some ⟨g4,0,none⟩) W W],rowF w.heap.size 4 1 (.slice (some ⟨g5,0,none⟩) W W) ((hvOf W sl).map boolRow),rowF w.heap.size 5 1 (.slice (some ⟨g4,0,none⟩) W W) ((dtOf W sl).map byteRow),ownF w.heap.size (.slice v1a r.held.length v1c) 2 (r.held.map pceCells),slF (.slice Arh r.held.length Crh) 2 (r.held.map pceCells)]⟩ : St)) zz.1) ?_ ?_
 refine kQ ?_
 refine kRD 2 [4,8,9,10,11,12,19,20,107] [(107,.v (.bool fin))] ?_
 refine kP 107 (fin) (fun h12 => ?_) (fun h12 => ?_)
 refine kRD 5 [4,8,9,10,11,12,19,20,112] [(112,.v (.bool (r.fin == (-1))))] ?_
 refine kP 112 (r.fin == (-1)) (fun h13 => ?_) (fun h13 => ?_)
 have h13p := eqT h13
 refine kRD 5 [4,8,9,10,11,12,19,20,117] [(117,.v (.bool (decide ((E : Int) ≤ (W : Int)))))] ?_
 refine kP 117 (decide ((E : Int) ≤ (W : Int))) (fun h14 => ?_) (fun h14 => ?_)
 have h14p := of_decide_eq_true h14
 have hcf := hasB_free (W := W) (p := E) hbe hl hW2 (by omega)
 refine kOD 0 [4,8,9,10,11,12,19,20,117] [(117,.v (.bool true))] (.slice (some ⟨g5,0,none⟩) W W) rfl (fun _ _ _ ww hr => ldP_run (off := 0) (B := w.heap.size) (g := gh) (T := 78) (cs := [.slice (some ⟨g5,0,none⟩) W W]) hr rfl (by kernel_rfl) (by simp) (by kernel_rfl)) ?_
 refine kOD 1 [4,8,9,10,11,12,19,20,117,118,119] [(119,.v (.int .i64 (E : Int)))] (.slice (if W = E then (some ⟨g5,0,none⟩ : Option Addr) else (some ⟨g5,0,none⟩ : Option Addr).map (·.add (E * 1))) (W - E) (W - E)) rfl (fun _ _ _ ww hr => act_slVe (e := 4) (A := some ⟨g5,0,none⟩) (len := W) (cap := W) (K := 1) (k := .i64) (p' := (E : Int)) E hr.1 rfl (by kernel_rfl) (by kernel_rfl) (by kernel_rfl) (by kernel_rfl) rfl (by omega) ww) ?_
 refine kCD 0 [4,8,9,10,11,12,19,20,117,120] [] 44 [.slice (if W = E then (some ⟨g5,0,none⟩ : Option Addr) else (some ⟨g5,0,none⟩ : Option Addr).map (·.add (E * 1))) (W - E) (W - E),.bool true] (some 121) rfl (xc_b fun ww hf => yContainsB_c (((hvOf W sl).drop E).take (W - E)) (.slice (if W = E then (some ⟨g5,0,none⟩ : Option Addr) else (some ⟨g5,0,none⟩ : Option Addr).map (·.add (E * 1))) (W - E) (W - E)) true ww (Sl.partM (rowF_sl (hf _ m2)) E W (by omega) (by omega)) ) ?_
 intro _
 refine kED [4,8,9,10,11,12,19,20,123] [(123,.v (.bool (!(hasB (((hvOf W sl).drop E).take (W - E)) true))))] ?_
 refine kC (!(hasB (((hvOf W sl).drop E).take (W - E)) true)) (fun h15 => ?_) (fun h15 => ?_)
 have h15n := not_t h15
 refine kG ?_
 refine kEU [4,8,9,10,11,12,19] [] 3 ⟨28,rcvL { r with fin := (E : Int) } (.slice Arh r.held.length Crh)⟩ ?_
 exact ⟨⟨((E : Int)),⟨(by unfold finIn; rw [← hall,hW,hE.2]; first | (simp [*]; done) | grind),(by first | omega | (have := hf3; omega))⟩⟩,kF 4 0 [4,8,9,10,11,12,19]⟩
 have h15n := not_f h15
 refine kK ?_
 exact ⟨⟨(r.fin),⟨(by unfold finIn; rw [← hall,hW,hE.2]; first | (simp [*]; done) | grind),(by first | omega | (have := hf3; omega))⟩⟩,kF 4 0 [4,8,9,10,11,12,19]⟩
 have h14p := of_decide_eq_false h14
 refine kED [4,8,9,10,11,12,19,20,123] [(123,.v (.bool false))] ?_
 refine kN ?_
 refine kK ?_
 exact ⟨⟨(r.fin),⟨(by unfold finIn; rw [← hall,hW,hE.2]; first | (simp [*]; done) | grind),(by first | omega | (have := hf3; omega))⟩⟩,kF 4 0 [4,8,9,10,11,12,19]⟩
 have h13p := eqF h13
 refine kED [4,8,9,10,11,12,19,20,123] [(123,.v (.bool false))] ?_
 refine kN ?_
 refine kK ?_
 exact ⟨⟨(r.fin),⟨(by unfold finIn; rw [← hall,hW,hE.2]; first | (simp [*]; done) | grind),(by first | omega | (have := hf3; omega))⟩⟩,kF 4 0 [4,8,9,10,11,12,19]⟩
 refine kED [4,8,9,10,11,12,19,20,123] [(123,.v (.bool false))] ?_
 refine kN ?_
 refine kK ?_
 exact ⟨⟨(r.fin),⟨(by unfold finIn; rw [← hall,hW,hE.2]; first | (simp [*]; done) | grind),(by first | omega | (have := hf3; omega))⟩⟩,kF 4 0 [4,8,9,10,11,12,19]⟩
 rintro ⟨fo,hfo,hfb⟩
 try dsimp only
 try dsimp only at hfo hfb
 refine kQ ?_
 refine kED [4,8,9,10,11,12,19,21] [(21,.v (.int .i64 0))] ?_
 refine kS ?_
 refine xw_joinF (α := {zz : Nat // (fun (n2 : Nat) => n2 = filled sl ∧ n2 ≤ W ∧ (∀ x ∈ sl.take n2,0 ≤ x)) zz}) (fun zz => (fun (n2 : Nat) => (⟨[(4,.p 0 0),(8,.p 1 0),(9,.p 2 0),(10,.v (.int .i64 (W : Int))),(11,.v (.pointer (some ⟨gd,0,none⟩))),(12,.v (.pointer (some ⟨gh,0,none⟩))),(19,.p 3 0),(21,.v (.int .i64 (n2 : Int)))],[⟨28,rcvL r (.slice Arh r.held.length Crh)⟩,⟨28,rcvZ⟩,⟨28,rcvL r (.slice v1a r.held.length v1c)⟩,⟨28,rcvL { r with fin := fo } (.slice Arh r.held.length Crh)⟩],[],[cellF w.heap.size gh 78 [.slice (some ⟨g5,0,none⟩) W W],cellF w.heap.size gd 59 [.slice (some ⟨g4,0,none⟩) W W],rowF w.heap.size 4 1 (.slice (some ⟨g5,0,none⟩) W W) ((hvOf W sl).map boolRow),rowF w.heap.size 5 1 (.slice (some ⟨g4,0,none⟩) W W) ((dtOf W sl).map byteRow),ownF w.heap.size (.slice v1a r.held.length v1c) 2 (r.held.map pceCells),slF (.slice Arh r.held.length Crh) 2 (r.held.map pceCells)]⟩ : St)) zz.1) ?_ ?_
 refine xw_block ?_
 refine xw_loopW (α := {x : Nat // (fun (n2 : Nat) => n2 ≤ W ∧ (∀ x ∈ sl.take n2,0 ≤ x)) x}) (fun x => (fun (n2 : Nat) => (⟨[(4,.p 0 0),(8,.p 1 0),(9,.p 2 0),(10,.v (.int .i64 (W : Int))),(11,.v (.pointer (some ⟨gd,0,none⟩))),(12,.v (.pointer (some ⟨gh,0,none⟩))),(19,.p 3 0),(21,.v (.int .i64 (n2 : Int)))],[⟨28,rcvL r (.slice Arh r.held.length Crh)⟩,⟨28,rcvZ⟩,⟨28,rcvL r (.slice v1a r.held.length v1c)⟩,⟨28,rcvL { r with fin := fo } (.slice Arh r.held.length Crh)⟩],[],[cellF w.heap.size gh 78 [.slice (some ⟨g5,0,none⟩) W W],cellF w.heap.size gd 59 [.slice (some ⟨g4,0,none⟩) W W],rowF w.heap.size 4 1 (.slice (some ⟨g5,0,none⟩) W W) ((hvOf W sl).map boolRow),rowF w.heap.size 5 1 (.slice (some ⟨g4,0,none⟩) W W) ((dtOf W sl).map byteRow),ownF w.heap.size (.slice v1a r.held.length v1c) 2 (r.held.map pceCells),slF (.slice Arh r.held.length Crh) 2 (r.held.map pceCells)]⟩ : St)) x.1) (fun x => (fun (n2 : Nat) => W - n2) x.1) ⟨(0),⟨Nat.zero_le _,(by simp)⟩⟩ (kF 4 0 [4,8,9,10,11,12,19,21]) ?_
 rintro ⟨n2,hn2,hps⟩
 try dsimp only
 try dsimp only at hn2 hps
 refine kS ?_
 refine kQ ?_
 refine kRD 4 [4,8,9,10,11,12,19,21,129] [(129,.v (.bool (decide ((n2 : Int) < (W : Int)))))] ?_
 refine kP 129 (decide ((n2 : Int) < (W : Int))) (fun h16 => ?_) (fun h16 => ?_)
 have h16p := of_decide_eq_true h16
 have hlt2 : n2 < W := by simp at h16; omega
 obtain ⟨y,hy⟩ : ∃ y,sl[n2]? = some y := ⟨_,List.getElem?_eq_getElem (by omega)⟩
 refine kOD 0 [4,8,9,10,11,12,19,21,129] [(129,.v (.bool true))] (.slice (some ⟨g5,0,none⟩) W W) rfl (fun _ _ _ ww hr => ldP_run (off := 0) (B := w.heap.size) (g := gh) (T := 78) (cs := [.slice (some ⟨g5,0,none⟩) W W]) hr rfl (by kernel_rfl) (by simp) (by kernel_rfl)) ?_
 refine kOD 1 [4,8,9,10,11,12,19,21,129,130,131] [(131,.v (.int .i64 (n2 : Int)))] (.pointer (some ⟨g5,n2 * 1,none⟩)) rfl (fun _ _ _ ww hr => act_ix (kd := .i64) (T := 78) (e := 4) (K := 1) (g := g5) (N := W) (cap := W) n2 rfl hr.1 rfl rfl (by kernel_rfl) (by kernel_rfl) (by kernel_rfl) hlt2 ww) ?_
 refine kOD 0 [4,8,9,10,11,12,19,21,129,132] [] (.bool (decide (0 ≤ y))) rfl (fun _ _ _ ww hr => ldR_run (po := 0) (j := n2) (row := [.bool (decide (0 ≤ y))]) (rowF w.heap.size 4 1 (.slice (some ⟨g5,0,none⟩) W W) ((hvOf W sl).map boolRow)) hr rfl (by kernel_rfl) (by simp) (by simp only [List.getElem?_map,hvOf_get hlt2 hy]; rfl) (by kernel_rfl) rfl rfl rfl) ?_
 refine kED [4,8,9,10,11,12,19,21,134] [(134,.v (.bool (decide (0 ≤ y))))] ?_
 refine kC (decide (0 ≤ y)) (fun h17 => ?_) (fun h17 => ?_)
 have h17p := of_decide_eq_true h17
 have hyp := of_decide_eq_true h17
 refine kK ?_
 refine xw_block ?_
 refine kG ?_
 refine kRS 3 [4,8,9,10,11,12,19,21] [(4,.p 0 0),(8,.p 1 0),(9,.p 2 0),(10,.v (.int .i64 (W : Int))),(11,.v (.pointer (some ⟨gd,0,none⟩))),(12,.v (.pointer (some ⟨gh,0,none⟩))),(19,.p 3 0),(21,.v (.int .i64 (IntKind.i64.wrap ((n2 : Int) + 1))))] ?_
 refine xl_eqS (t' := [(4,.p 0 0),(8,.p 1 0),(9,.p 2 0),(10,.v (.int .i64 (W : Int))),(11,.v (.pointer (some ⟨gd,0,none⟩))),(12,.v (.pointer (some ⟨gh,0,none⟩))),(19,.p 3 0),(21,.v (.int .i64 ((n2 : Int) + 1)))]) (by rw [show (IntKind.i64.wrap ((n2 : Int) + 1)) = ((n2 : Int) + 1) from wrap_id (by omega) (by omega)]) ?_
 refine kED [4,8,9,10,11,12,19,21] [] ?_
 exact ⟨⟨(n2 + 1),⟨(by (try dsimp only); omega),(take_pos hps hy (by omega))⟩⟩,kF 4 0 [4,8,9,10,11,12,19,21],by show (fun (n2 : Nat) => W - n2) (n2 + 1) < W - n2; (dsimp only; omega)⟩
 have h17p := of_decide_eq_false h17
 have hyp := of_decide_eq_false h17
 refine xw_exit ?_
 exact ⟨⟨(n2),⟨(by first | exact (filled_stop (k := n2) (by omega) hps (fun z hz => by rw [hy] at hz; simp only [Option.some.injEq] at hz; omega)).symm | exact (filled_stop (k := n2) (by omega) hps (fun z hz => by rw [hbe n2 (by omega) (by omega)] at hz; simp only [Option.some.injEq] at hz; omega)).symm),hn2,hps⟩⟩,kF 4 0 [4,8,9,10,11,12,19,21]⟩
 have h16p := of_decide_eq_false h16
 have hge2 : n2 = W := by simp at h16; omega
 refine kED [4,8,9,10,11,12,19,21,134] [(134,.v (.bool false))] ?_
 refine kN ?_
 refine xw_exit ?_
 exact ⟨⟨(n2),⟨(by first | exact (filled_stop (k := n2) (by omega) hps (fun z hz => by rw [hy] at hz; simp only [Option.some.injEq] at hz; omega)).symm | exact (filled_stop (k := n2) (by omega) hps (fun z hz => by rw [hbe n2 (by omega) (by omega)] at hz; simp only [Option.some.injEq] at hz; omega)).symm),hn2,hps⟩⟩,kF 4 0 [4,8,9,10,11,12,19,21]⟩
 rintro ⟨n2,hnf,hn2,hps⟩
 try dsimp only
 try dsimp only at hnf hn2 hps
 refine kS ?_
 refine xw_join ⟨[(4,.p 0 0),(8,.p 1 0),(9,.p 2 0),(10,.v (.int .i64 (W : Int))),(11,.v (.pointer (some ⟨gd,0,none⟩))),(12,.v (.pointer (some ⟨gh,0,none⟩))),(19,.p 3 0),(21,.v (.int .i64 (n2 : Int)))],[⟨28,rcvL r (.slice Arh r.held.length Crh)⟩,⟨28,rcvZ⟩,⟨28,rcvL r (.slice v1a r.held.length v1c)⟩,⟨28,rcvL { r with data := r.data ++ (bstr (sl.take n2)),fin := fo } (.slice Arh r.held.length Crh)⟩],[],[cellF w.heap.size gh 78 [.slice (some ⟨g5,0,none⟩) W W],cellF w.heap.size gd 59 [.slice (some ⟨g4,0,none⟩) W W],rowF w.heap.size 4 1 (.slice (some ⟨g5,0,none⟩) W W) ((hvOf W sl).map boolRow),rowF w.heap.size 5 1 (.slice (some ⟨g4,0,none⟩) W W) ((dtOf W sl).map byteRow),ownF w.heap.size (.slice v1a r.held.length v1c) 2 (r.held.map pceCells),slF (.slice Arh r.held.length Crh) 2 (r.held.map pceCells)]⟩ ?_ ?_
 refine xws_start ?_
 refine xws_cell (B := w.heap.size) (g := gd) (T := 59) (cs := [.slice (some ⟨g4,0,none⟩) W W]) (fun _ _ h => h) (by simp) ?_
 refine xws_regionE [true,true,true,false] (by kernel_rfl) (fun ρ σ hq18 => ?_)
 refine kTS [0,3] [140,137,4,8,9,10,11,12,19,21] 7 [(140,.v (.int .i64 (n2 : Int))),(137,.p 3 1),(4,.p 0 0),(8,.p 1 0),(9,.p 2 0),(10,.v (.int .i64 (W : Int))),(11,.v (.pointer (some ⟨gd,0,none⟩))),(12,.v (.pointer (some ⟨gh,0,none⟩))),(19,.p 3 0),(21,.v (.int .i64 (n2 : Int)))] ?_
 refine xe_opH 2 (.slice (some ⟨g4,0,none⟩) W W) _ rfl (by kernel_rfl) (by kernel_rfl) (by kernel_rfl) (fun _ _ h => h) (by kernel_rfl) rfl (fun _ _ ww hA hS => ld_range (g := gd) (off := 0) (cs := [.slice (some ⟨g4,0,none⟩) W W]) hA rfl (by kernel_rfl) (rd_row hS (h := 0) rfl hq18.2) (by kernel_rfl)) rfl ?_
 refine kA [1,4] ⟨?_,?_⟩
 refine kSV 1 (.v (.string r.data)) rfl ?_
 refine kA [4] ?_
 refine kSR 4 (.slice (if W = 0 then (some ⟨g4,0,none⟩ : Option Addr) else (some ⟨g4,0,none⟩ : Option Addr).map (·.add (0 * 1))) (n2 - 0) (W - 0)) rfl (fun _ _ ww hr => act_slV0 (e := 5) (A := some ⟨g4,0,none⟩) (len := W) (cap := W) (K := 1) (k' := .i64) (q' := (n2 : Int)) n2 hr.1 rfl (by kernel_rfl) (by kernel_rfl) (by kernel_rfl) (by kernel_rfl) rfl (Nat.le_trans (show n2 ≤ W by omega) (Sl.capLe (rowF_sl (hr.2.fact (rowF w.heap.size 5 1 (.slice (some ⟨g4,0,none⟩) W W) ((dtOf W sl).map byteRow)) (by simp)).1))) ww) ?_
 refine kA [5] ?_
 refine kSR 5 (.string (bstr (((dtOf W sl).drop 0).take (n2 - 0)))) rfl (fun _ _ ww hr => act_b2s (e := 5) (((dtOf W sl).drop 0).take (n2 - 0)) hr.1 rfl (by kernel_rfl) (by kernel_rfl) (by kernel_rfl) rfl (Sl.partM (rowF_sl (hr.2.fact (rowF w.heap.size 5 1 (.slice (some ⟨g4,0,none⟩) W W) ((dtOf W sl).map byteRow)) (by simp)).1) 0 n2 (by omega) (by omega))) ?_
 refine xe_eqS (t := [(142,.v (.string (bstr (((dtOf W sl).drop 0).take (n2 - 0))))),(141,.v (.slice (if W = 0 then (some ⟨g4,0,none⟩ : Option Addr) else (some ⟨g4,0,none⟩ : Option Addr).map (·.add (0 * 1))) (n2 - 0) (W - 0))),(138,.v (.string r.data)),(139,.v (.slice (some ⟨g4,0,none⟩) W W)),(140,.v (.int .i64 (n2 : Int))),(137,.p 3 1),(4,.p 0 0),(8,.p 1 0),(9,.p 2 0),(10,.v (.int .i64 (W : Int))),(11,.v (.pointer (some ⟨gd,0,none⟩))),(12,.v (.pointer (some ⟨gh,0,none⟩))),(19,.p 3 0),(21,.v (.int .i64 (n2 : Int)))]) (t' := [(142,.v (.string (bstr (sl.take n2)))),(141,.v (.slice (if W = 0 then (some ⟨g4,0,none⟩ : Option Addr) else (some ⟨g4,0,none⟩ : Option Addr).map (·.add (0 * 1))) (n2 - 0) (W - 0))),(138,.v (.string r.data)),(139,.v (.slice (some ⟨g4,0,none⟩) W W)),(140,.v (.int .i64 (n2 : Int))),(137,.p 3 1),(4,.p 0 0),(8,.p 1 0),(9,.p 2 0),(10,.v (.int .i64 (W : Int))),(11,.v (.pointer (some ⟨gd,0,none⟩))),(12,.v (.pointer (some ⟨gh,0,none⟩))),(19,.p 3 0),(21,.v (.int .i64 (n2 : Int)))]) (by rw [show (bstr (((dtOf W sl).drop 0).take (n2 - 0))) = (bstr (sl.take n2)) from dt_head hn2 hps]) ?_
 refine kX 6 (.string (r.data ++ (bstr (sl.take n2)))) rfl (fun _ _ ww hA => act_bin hA rfl (by kernel_rfl) (by kernel_rfl) (str_add (by rw [bstr_size,List.length_take]; omega) ww)) ?_
 refine kTS [7] [144,143,4,8,9,10,11,12,19,21] 1 [(144,.p 3 1),(143,.v (.string (r.data ++ (bstr (sl.take n2))))),(4,.p 0 0),(8,.p 1 0),(9,.p 2 0),(10,.v (.int .i64 (W : Int))),(11,.v (.pointer (some ⟨gd,0,none⟩))),(12,.v (.pointer (some ⟨gh,0,none⟩))),(19,.p 3 0),(21,.v (.int .i64 (n2 : Int)))] ?_
 refine kA [8] ?_
 refine kSS 8 3 1 [.string (r.data ++ (bstr (sl.take n2)))] rfl ?_
 refine kZ ?_
 exact kF 4 0 [4,8,9,10,11,12,19,21]
 refine kSR 4 (.slice (if W = 0 then (some ⟨g4,0,none⟩ : Option Addr) else (some ⟨g4,0,none⟩ : Option Addr).map (·.add (0 * 1))) (n2 - 0) (W - 0)) rfl (fun _ _ ww hr => act_slV0 (e := 5) (A := some ⟨g4,0,none⟩) (len := W) (cap := W) (K := 1) (k' := .i64) (q' := (n2 : Int)) n2 hr.1 rfl (by kernel_rfl) (by kernel_rfl) (by kernel_rfl) (by kernel_rfl) rfl (Nat.le_trans (show n2 ≤ W by omega) (Sl.capLe (rowF_sl (hr.2.fact (rowF w.heap.size 5 1 (.slice (some ⟨g4,0,none⟩) W W) ((dtOf W sl).map byteRow)) (by simp)).1))) ww) ?_
 refine kA [1,5] ⟨?_,?_⟩
 refine kSV 1 (.v (.string r.data)) rfl ?_
 refine kA [5] ?_
 refine kSR 5 (.string (bstr (((dtOf W sl).drop 0).take (n2 - 0)))) rfl (fun _ _ ww hr => act_b2s (e := 5) (((dtOf W sl).drop 0).take (n2 - 0)) hr.1 rfl (by kernel_rfl) (by kernel_rfl) (by kernel_rfl) rfl (Sl.partM (rowF_sl (hr.2.fact (rowF w.heap.size 5 1 (.slice (some ⟨g4,0,none⟩) W W) ((dtOf W sl).map byteRow)) (by simp)).1) 0 n2 (by omega) (by omega))) ?_
 refine xe_eqS (t := [(142,.v (.string (bstr (((dtOf W sl).drop 0).take (n2 - 0))))),(138,.v (.string r.data)),(141,.v (.slice (if W = 0 then (some ⟨g4,0,none⟩ : Option Addr) else (some ⟨g4,0,none⟩ : Option Addr).map (·.add (0 * 1))) (n2 - 0) (W - 0))),(139,.v (.slice (some ⟨g4,0,none⟩) W W)),(140,.v (.int .i64 (n2 : Int))),(137,.p 3 1),(4,.p 0 0),(8,.p 1 0),(9,.p 2 0),(10,.v (.int .i64 (W : Int))),(11,.v (.pointer (some ⟨gd,0,none⟩))),(12,.v (.pointer (some ⟨gh,0,none⟩))),(19,.p 3 0),(21,.v (.int .i64 (n2 : Int)))]) (t' := [(142,.v (.string (bstr (sl.take n2)))),(138,.v (.string r.data)),(141,.v (.slice (if W = 0 then (some ⟨g4,0,none⟩ : Option Addr) else (some ⟨g4,0,none⟩ : Option Addr).map (·.add (0 * 1))) (n2 - 0) (W - 0))),(139,.v (.slice (some ⟨g4,0,none⟩) W W)),(140,.v (.int .i64 (n2 : Int))),(137,.p 3 1),(4,.p 0 0),(8,.p 1 0),(9,.p 2 0),(10,.v (.int .i64 (W : Int))),(11,.v (.pointer (some ⟨gd,0,none⟩))),(12,.v (.pointer (some ⟨gh,0,none⟩))),(19,.p 3 0),(21,.v (.int .i64 (n2 : Int)))]) (by rw [show (bstr (((dtOf W sl).drop 0).take (n2 - 0))) = (bstr (sl.take n2)) from dt_head hn2 hps]) ?_
 refine kX 6 (.string (r.data ++ (bstr (sl.take n2)))) rfl (fun _ _ ww hA => act_bin hA rfl (by kernel_rfl) (by kernel_rfl) (str_add (by rw [bstr_size,List.length_take]; omega) ww)) ?_
 refine kTS [7] [144,143,4,8,9,10,11,12,19,21] 1 [(144,.p 3 1),(143,.v (.string (r.data ++ (bstr (sl.take n2))))),(4,.p 0 0),(8,.p 1 0),(9,.p 2 0),(10,.v (.int .i64 (W : Int))),(11,.v (.pointer (some ⟨gd,0,none⟩))),(12,.v (.pointer (some ⟨gh,0,none⟩))),(19,.p 3 0),(21,.v (.int .i64 (n2 : Int)))] ?_
 refine kA [8] ?_
 refine kSS 8 3 1 [.string (r.data ++ (bstr (sl.take n2)))] rfl ?_
 refine kZ ?_
 exact kF 4 0 [4,8,9,10,11,12,19,21]
 refine kSR 5 (.string (bstr (((dtOf W sl).drop 0).take (n2 - 0)))) rfl (fun _ _ ww hr => act_b2s (e := 5) (((dtOf W sl).drop 0).take (n2 - 0)) hr.1 rfl (by kernel_rfl) (by kernel_rfl) (by kernel_rfl) rfl (Sl.partM (rowF_sl (hr.2.fact (rowF w.heap.size 5 1 (.slice (some ⟨g4,0,none⟩) W W) ((dtOf W sl).map byteRow)) (by simp)).1) 0 n2 (by omega) (by omega))) ?_
 refine xe_eqS (t := [(142,.v (.string (bstr (((dtOf W sl).drop 0).take (n2 - 0))))),(141,.v (.slice (if W = 0 then (some ⟨g4,0,none⟩ : Option Addr) else (some ⟨g4,0,none⟩ : Option Addr).map (·.add (0 * 1))) (n2 - 0) (W - 0))),(139,.v (.slice (some ⟨g4,0,none⟩) W W)),(140,.v (.int .i64 (n2 : Int))),(137,.p 3 1),(4,.p 0 0),(8,.p 1 0),(9,.p 2 0),(10,.v (.int .i64 (W : Int))),(11,.v (.pointer (some ⟨gd,0,none⟩))),(12,.v (.pointer (some ⟨gh,0,none⟩))),(19,.p 3 0),(21,.v (.int .i64 (n2 : Int)))]) (t' := [(142,.v (.string (bstr (sl.take n2)))),(141,.v (.slice (if W = 0 then (some ⟨g4,0,none⟩ : Option Addr) else (some ⟨g4,0,none⟩ : Option Addr).map (·.add (0 * 1))) (n2 - 0) (W - 0))),(139,.v (.slice (some ⟨g4,0,none⟩) W W)),(140,.v (.int .i64 (n2 : Int))),(137,.p 3 1),(4,.p 0 0),(8,.p 1 0),(9,.p 2 0),(10,.v (.int .i64 (W : Int))),(11,.v (.pointer (some ⟨gd,0,none⟩))),(12,.v (.pointer (some ⟨gh,0,none⟩))),(19,.p 3 0),(21,.v (.int .i64 (n2 : Int)))]) (by rw [show (bstr (((dtOf W sl).drop 0).take (n2 - 0))) = (bstr (sl.take n2)) from dt_head hn2 hps]) ?_
 refine kA [1] ?_
 refine kSV 1 (.v (.string r.data)) rfl ?_
 refine kX 6 (.string (r.data ++ (bstr (sl.take n2)))) rfl (fun _ _ ww hA => act_bin hA rfl (by kernel_rfl) (by kernel_rfl) (str_add (by rw [bstr_size,List.length_take]; omega) ww)) ?_
 refine kTS [7] [144,143,4,8,9,10,11,12,19,21] 1 [(144,.p 3 1),(143,.v (.string (r.data ++ (bstr (sl.take n2))))),(4,.p 0 0),(8,.p 1 0),(9,.p 2 0),(10,.v (.int .i64 (W : Int))),(11,.v (.pointer (some ⟨gd,0,none⟩))),(12,.v (.pointer (some ⟨gh,0,none⟩))),(19,.p 3 0),(21,.v (.int .i64 (n2 : Int)))] ?_
 refine kA [8] ?_
 refine kSS 8 3 1 [.string (r.data ++ (bstr (sl.take n2)))] rfl ?_
 refine kZ ?_
 exact kF 4 0 [4,8,9,10,11,12,19,21]
 refine kQ ?_
 refine kCD 3 [8,9,10,11,12,19,21,146,147] [(146,.v (.int .i64 r.next)),(147,.v (.int .i64 (n2 : Int)))] 26 [.int .i64 r.next,.int .i64 (n2 : Int)] (some 148) rfl (xc_s fun ww hf => iSeqAdd_c r.next (n2 : Int) ww ) ?_
 intro _
 refine kEU [8,9,10,11,12,19,21] [] 3 ⟨28,[.int .i64 (seqAdd r.next (n2 : Int)),.string (r.data ++ (bstr (sl.take n2))),.slice Arh r.held.length Crh,.int .i64 fo,.bool r.done]⟩ ?_
 refine kS ?_
 refine xw_joinF (α := {zz : Int // (fun (fp : Int) => fp = finOut r seq text fin) zz}) (fun zz => (fun (fp : Int) => (⟨[(8,.p 1 0),(9,.p 2 0),(10,.v (.int .i64 (W : Int))),(11,.v (.pointer (some ⟨gd,0,none⟩))),(12,.v (.pointer (some ⟨gh,0,none⟩))),(19,.p 3 0),(21,.v (.int .i64 (n2 : Int)))],[⟨28,rcvL r (.slice Arh r.held.length Crh)⟩,⟨28,rcvZ⟩,⟨28,rcvL r (.slice v1a r.held.length v1c)⟩,⟨28,[.int .i64 (seqAdd r.next (n2 : Int)),.string (r.data ++ (bstr (sl.take n2))),.slice Arh r.held.length Crh,.int .i64 fp,.bool r.done]⟩],[],[cellF w.heap.size gh 78 [.slice (some ⟨g5,0,none⟩) W W],cellF w.heap.size gd 59 [.slice (some ⟨g4,0,none⟩) W W],rowF w.heap.size 4 1 (.slice (some ⟨g5,0,none⟩) W W) ((hvOf W sl).map boolRow),rowF w.heap.size 5 1 (.slice (some ⟨g4,0,none⟩) W W) ((dtOf W sl).map byteRow),ownF w.heap.size (.slice v1a r.held.length v1c) 2 (r.held.map pceCells),slF (.slice Arh r.held.length Crh) 2 (r.held.map pceCells)]⟩ : St)) zz.1) ?_ ?_
 refine kQ ?_
 refine kED [8,9,10,11,12,19,21,152] [(152,.v (.bool (fo != (-1))))] ?_
 refine kC (fo != (-1)) (fun h19 => ?_) (fun h19 => ?_)
 have h19p := neT h19
 refine kG ?_
 refine kRF 6 [8,9,10,11,12,19,21] ⟨[(8,.p 1 0),(9,.p 2 0),(10,.v (.int .i64 (W : Int))),(11,.v (.pointer (some ⟨gd,0,none⟩))),(12,.v (.pointer (some ⟨gh,0,none⟩))),(19,.p 3 0),(21,.v (.int .i64 (n2 : Int)))],[⟨28,rcvL r (.slice Arh r.held.length Crh)⟩,⟨28,rcvZ⟩,⟨28,rcvL r (.slice v1a r.held.length v1c)⟩,⟨28,[.int .i64 (seqAdd r.next (n2 : Int)),.string (r.data ++ (bstr (sl.take n2))),.slice Arh r.held.length Crh,.int .i64 (IntKind.i64.wrap (fo - (n2 : Int))),.bool r.done]⟩],[],[cellF w.heap.size gh 78 [.slice (some ⟨g5,0,none⟩) W W],cellF w.heap.size gd 59 [.slice (some ⟨g4,0,none⟩) W W],rowF w.heap.size 4 1 (.slice (some ⟨g5,0,none⟩) W W) ((hvOf W sl).map boolRow),rowF w.heap.size 5 1 (.slice (some ⟨g4,0,none⟩) W W) ((dtOf W sl).map byteRow),ownF w.heap.size (.slice v1a r.held.length v1c) 2 (r.held.map pceCells),slF (.slice Arh r.held.length Crh) 2 (r.held.map pceCells)]⟩ ?_
 refine xl_eq (st' := ⟨[(8,.p 1 0),(9,.p 2 0),(10,.v (.int .i64 (W : Int))),(11,.v (.pointer (some ⟨gd,0,none⟩))),(12,.v (.pointer (some ⟨gh,0,none⟩))),(19,.p 3 0),(21,.v (.int .i64 (n2 : Int)))],[⟨28,rcvL r (.slice Arh r.held.length Crh)⟩,⟨28,rcvZ⟩,⟨28,rcvL r (.slice v1a r.held.length v1c)⟩,⟨28,[.int .i64 (seqAdd r.next (n2 : Int)),.string (r.data ++ (bstr (sl.take n2))),.slice Arh r.held.length Crh,.int .i64 (fo - (n2 : Int)),.bool r.done]⟩],[],[cellF w.heap.size gh 78 [.slice (some ⟨g5,0,none⟩) W W],cellF w.heap.size gd 59 [.slice (some ⟨g4,0,none⟩) W W],rowF w.heap.size 4 1 (.slice (some ⟨g5,0,none⟩) W W) ((hvOf W sl).map boolRow),rowF w.heap.size 5 1 (.slice (some ⟨g4,0,none⟩) W W) ((dtOf W sl).map byteRow),ownF w.heap.size (.slice v1a r.held.length v1c) 2 (r.held.map pceCells),slF (.slice Arh r.held.length Crh) 2 (r.held.map pceCells)]⟩) (by rw [show (IntKind.i64.wrap (fo - (n2 : Int))) = (fo - (n2 : Int)) from wrap_id (by omega) (by omega)] <;> rfl) ?_
 refine kED [8,9,10,11,12,19,21] [] ?_
 exact ⟨⟨(fo - (n2 : Int)),(by unfold finOut; rw [← hall,← hnf,← hfo]; first | rw [if_pos (by omega)] | rw [if_neg (by omega)])⟩,kF 4 0 [8,9,10,11,12,19,21]⟩
 have h19p := neF h19
 refine kK ?_
 exact ⟨⟨(fo),(by unfold finOut; rw [← hall,← hnf,← hfo]; first | rw [if_pos (by omega)] | rw [if_neg (by omega)])⟩,kF 4 0 [8,9,10,11,12,19,21]⟩
 rintro ⟨fp,hfp⟩
 try dsimp only
 try dsimp only at hfp
 refine kQ ?_
 refine kEU [8,9,10,11,12,19,21] [] 3 ⟨28,[.int .i64 (seqAdd r.next (n2 : Int)),.string (r.data ++ (bstr (sl.take n2))),.slice none 0 0,.int .i64 fp,.bool r.done]⟩ ?_
 refine kS ?_
 refine kQ ?_
 refine kED [8,9,10,11,12,19,21,22] [(22,.v (.int .i64 (n2 : Int)))] ?_
 refine xw_block ?_
 refine xw_free (rowF w.heap.size 81 2 (.slice none 0 0) (([] : List Pce).map pceCells)) (fun ww hww => nilF_p _ _ ww hww) (fun b => nilF_b _ _ _ b) ?_
 refine xw_loopW (α := {x : Nat × List Pce × Option Addr × Nat // (fun (i : Nat) (out : List Pce) (A1 : Option Addr) (c1 : Nat) => (n2 ≤ i ∧ i ≤ W) ∧ pcs [] 0 (sl.drop n2) = pcs out (i - n2) (sl.drop i) ∧ (∀ p ∈ out,0 ≤ p.off ∧ p.off + (p.text.size : Int) ≤ ((i - n2 : Nat) : Int)) ∧ (∀ x,sl[i]? = some x → 0 ≤ x → ¬ touches out (i - n2)) ∧ out.length ≤ i) x.1 x.2.1 x.2.2.1 x.2.2.2}) (fun x => (fun (i : Nat) (out : List Pce) (A1 : Option Addr) (c1 : Nat) => (⟨[(8,.p 1 0),(9,.p 2 0),(10,.v (.int .i64 (W : Int))),(11,.v (.pointer (some ⟨gd,0,none⟩))),(12,.v (.pointer (some ⟨gh,0,none⟩))),(19,.p 3 0),(21,.v (.int .i64 (n2 : Int))),(22,.v (.int .i64 (i : Int)))],[⟨28,rcvL r (.slice Arh r.held.length Crh)⟩,⟨28,rcvZ⟩,⟨28,rcvL r (.slice v1a r.held.length v1c)⟩,⟨28,[.int .i64 (seqAdd r.next (n2 : Int)),.string (r.data ++ (bstr (sl.take n2))),.slice A1 out.length c1,.int .i64 fp,.bool r.done]⟩],[],[rowF w.heap.size 81 2 (.slice A1 out.length c1) (out.map pceCells),cellF w.heap.size gh 78 [.slice (some ⟨g5,0,none⟩) W W],cellF w.heap.size gd 59 [.slice (some ⟨g4,0,none⟩) W W],rowF w.heap.size 4 1 (.slice (some ⟨g5,0,none⟩) W W) ((hvOf W sl).map boolRow),rowF w.heap.size 5 1 (.slice (some ⟨g4,0,none⟩) W W) ((dtOf W sl).map byteRow),ownF w.heap.size (.slice v1a r.held.length v1c) 2 (r.held.map pceCells),slF (.slice Arh r.held.length Crh) 2 (r.held.map pceCells)]⟩ : St)) x.1.1 x.1.2.1 x.1.2.2.1 x.1.2.2.2) (fun x => (fun (i : Nat) (out : List Pce) (A1 : Option Addr) (c1 : Nat) => W - i) x.1.1 x.1.2.1 x.1.2.2.1 x.1.2.2.2) ⟨(n2,([] : List Pce),none,0),⟨⟨Nat.le_refl _,hn2⟩,(by rw [Nat.sub_self]),(by simp),(fun x _ _ => by rintro ⟨p,hp,-⟩; simp at hp),Nat.zero_le _⟩⟩ (kF 4 0 [8,9,10,11,12,19,21,22]) ?_
 rintro ⟨⟨i,out,A1,c1⟩,hi,HP,hbd,htc,hol⟩
 try dsimp only
 try dsimp only at hi HP hbd htc hol
 refine kS ?_
 refine kQ ?_
 refine kED [8,9,10,11,12,19,21,22,162] [(162,.v (.bool (decide ((i : Int) < (W : Int)))))] ?_
 refine kC (decide ((i : Int) < (W : Int))) (fun h20 => ?_) (fun h20 => ?_)
 have h20p := of_decide_eq_true h20
 have hlt5 : i < W := by simp at h20; omega
 obtain ⟨y2,hy2⟩ : ∃ y,sl[i]? = some y := ⟨_,List.getElem?_eq_getElem (by omega)⟩
 refine kK ?_
 refine xw_block ?_
 refine kS ?_
 refine kQ ?_
 refine kOD 0 [8,9,10,11,12,19,21,22] [] (.slice (some ⟨g5,0,none⟩) W W) rfl (fun _ _ _ ww hr => ldP_run (off := 0) (B := w.heap.size) (g := gh) (T := 78) (cs := [.slice (some ⟨g5,0,none⟩) W W]) hr rfl (by kernel_rfl) (by simp) (by kernel_rfl)) ?_
 refine kOD 1 [8,9,10,11,12,19,21,22,163,164] [(164,.v (.int .i64 (i : Int)))] (.pointer (some ⟨g5,i * 1,none⟩)) rfl (fun _ _ _ ww hr => act_ix (kd := .i64) (T := 78) (e := 4) (K := 1) (g := g5) (N := W) (cap := W) i rfl hr.1 rfl rfl (by kernel_rfl) (by kernel_rfl) (by kernel_rfl) hlt5 ww) ?_
 refine kOD 0 [8,9,10,11,12,19,21,22,165] [] (.bool (decide (0 ≤ y2))) rfl (fun _ _ _ ww hr => ldR_run (po := 0) (j := i) (row := [.bool (decide (0 ≤ y2))]) (rowF w.heap.size 4 1 (.slice (some ⟨g5,0,none⟩) W W) ((hvOf W sl).map boolRow)) hr rfl (by kernel_rfl) (by simp) (by simp only [List.getElem?_map,hvOf_get hlt5 hy2]; rfl) (by kernel_rfl) rfl rfl rfl) ?_
 refine kED [8,9,10,11,12,19,21,22,167] [(167,.v (.bool (!(decide (0 ≤ y2)))))] ?_
 refine kC (!(decide (0 ≤ y2))) (fun h21 => ?_) (fun h21 => ?_)
 have h21n := not_t h21
 have hy2p := of_decide_eq_false h21n
 refine kQ ?_
 refine kRS 3 [8,9,10,11,12,19,21,22] [(8,.p 1 0),(9,.p 2 0),(10,.v (.int .i64 (W : Int))),(11,.v (.pointer (some ⟨gd,0,none⟩))),(12,.v (.pointer (some ⟨gh,0,none⟩))),(19,.p 3 0),(21,.v (.int .i64 (n2 : Int))),(22,.v (.int .i64 (IntKind.i64.wrap ((i : Int) + 1))))] ?_
 refine xl_eqS (t' := [(8,.p 1 0),(9,.p 2 0),(10,.v (.int .i64 (W : Int))),(11,.v (.pointer (some ⟨gd,0,none⟩))),(12,.v (.pointer (some ⟨gh,0,none⟩))),(19,.p 3 0),(21,.v (.int .i64 (n2 : Int))),(22,.v (.int .i64 ((i : Int) + 1)))]) (by rw [show (IntKind.i64.wrap ((i : Int) + 1)) = ((i : Int) + 1) from wrap_id (by omega) (by omega)]) ?_
 refine kED [8,9,10,11,12,19,21,22] [] ?_
 refine xw_exit ?_
 exact ⟨⟨(i + 1,out,A1,c1),⟨(by (try dsimp only); omega),(by rw [HP,pcs_step (l := sl) (m := n2) hy2 (by omega),if_pos (by omega)]),(fun p hp => by have := hbd p hp; (try dsimp only); omega),(fun x _ _ => by rw [show i + 1 - n2 = (i - n2) + 1 by omega]; exact touch_skip hbd),(by (try dsimp only); omega)⟩⟩,kF 4 0 [8,9,10,11,12,19,21,22],by show (fun (i : Nat) (out : List Pce) (A1 : Option Addr) (c1 : Nat) => W - i) (i + 1) out A1 c1 < W - i; (dsimp only; omega)⟩
 have h21n := not_f h21
 have hy2p := of_decide_eq_true h21n
 refine kK ?_
 refine kQ ?_
 refine kED [8,9,10,11,12,19,21,22,23] [(23,.v (.int .i64 (i : Int)))] ?_
 refine kS ?_
 refine xw_joinF (α := {zz : Nat // (fun (j : Nat) => (i < j ∧ j ≤ W) ∧ (∀ x ∈ (sl.drop i).take (j - i),0 ≤ x) ∧ (∀ z,sl[j]? = some z → z < 0)) zz}) (fun zz => (fun (j : Nat) => (⟨[(8,.p 1 0),(9,.p 2 0),(10,.v (.int .i64 (W : Int))),(11,.v (.pointer (some ⟨gd,0,none⟩))),(12,.v (.pointer (some ⟨gh,0,none⟩))),(19,.p 3 0),(21,.v (.int .i64 (n2 : Int))),(22,.v (.int .i64 (j : Int))),(23,.v (.int .i64 (i : Int)))],[⟨28,rcvL r (.slice Arh r.held.length Crh)⟩,⟨28,rcvZ⟩,⟨28,rcvL r (.slice v1a r.held.length v1c)⟩,⟨28,[.int .i64 (seqAdd r.next (n2 : Int)),.string (r.data ++ (bstr (sl.take n2))),.slice A1 out.length c1,.int .i64 fp,.bool r.done]⟩],[],[rowF w.heap.size 81 2 (.slice A1 out.length c1) (out.map pceCells),cellF w.heap.size gh 78 [.slice (some ⟨g5,0,none⟩) W W],cellF w.heap.size gd 59 [.slice (some ⟨g4,0,none⟩) W W],rowF w.heap.size 4 1 (.slice (some ⟨g5,0,none⟩) W W) ((hvOf W sl).map boolRow),rowF w.heap.size 5 1 (.slice (some ⟨g4,0,none⟩) W W) ((dtOf W sl).map byteRow),ownF w.heap.size (.slice v1a r.held.length v1c) 2 (r.held.map pceCells),slF (.slice Arh r.held.length Crh) 2 (r.held.map pceCells)]⟩ : St)) zz.1) ?_ ?_
 refine xw_block ?_
 refine xw_loopW (α := {x : Nat // (fun (j : Nat) => (i ≤ j ∧ j ≤ W) ∧ (∀ x ∈ (sl.drop i).take (j - i),0 ≤ x)) x}) (fun x => (fun (j : Nat) => (⟨[(8,.p 1 0),(9,.p 2 0),(10,.v (.int .i64 (W : Int))),(11,.v (.pointer (some ⟨gd,0,none⟩))),(12,.v (.pointer (some ⟨gh,0,none⟩))),(19,.p 3 0),(21,.v (.int .i64 (n2 : Int))),(22,.v (.int .i64 (j : Int))),(23,.v (.int .i64 (i : Int)))],[⟨28,rcvL r (.slice Arh r.held.length Crh)⟩,⟨28,rcvZ⟩,⟨28,rcvL r (.slice v1a r.held.length v1c)⟩,⟨28,[.int .i64 (seqAdd r.next (n2 : Int)),.string (r.data ++ (bstr (sl.take n2))),.slice A1 out.length c1,.int .i64 fp,.bool r.done]⟩],[],[rowF w.heap.size 81 2 (.slice A1 out.length c1) (out.map pceCells),cellF w.heap.size gh 78 [.slice (some ⟨g5,0,none⟩) W W],cellF w.heap.size gd 59 [.slice (some ⟨g4,0,none⟩) W W],rowF w.heap.size 4 1 (.slice (some ⟨g5,0,none⟩) W W) ((hvOf W sl).map boolRow),rowF w.heap.size 5 1 (.slice (some ⟨g4,0,none⟩) W W) ((dtOf W sl).map byteRow),ownF w.heap.size (.slice v1a r.held.length v1c) 2 (r.held.map pceCells),slF (.slice Arh r.held.length Crh) 2 (r.held.map pceCells)]⟩ : St)) x.1) (fun x => (fun (j : Nat) => W - j) x.1) ⟨(i),⟨⟨Nat.le_refl _,by omega⟩,(by rw [Nat.sub_self]; simp)⟩⟩ (kF 4 0 [8,9,10,11,12,19,21,22,23]) ?_
 rintro ⟨j,hij,hrun⟩
 try dsimp only
 try dsimp only at hij hrun
 refine kS ?_
 refine kQ ?_
 refine kRS 4 [8,9,10,11,12,19,21,22,23,174] [(8,.p 1 0),(9,.p 2 0),(10,.v (.int .i64 (W : Int))),(11,.v (.pointer (some ⟨gd,0,none⟩))),(12,.v (.pointer (some ⟨gh,0,none⟩))),(19,.p 3 0),(21,.v (.int .i64 (n2 : Int))),(22,.v (.int .i64 (j : Int))),(23,.v (.int .i64 (i : Int))),(174,.v (.bool (decide ((j : Int) < (W : Int)))))] ?_
 refine kP 174 (decide ((j : Int) < (W : Int))) (fun h22 => ?_) (fun h22 => ?_)
 have h22p := of_decide_eq_true h22
 have hlt6 : j < W := by simp at h22; omega
 obtain ⟨y3,hy3⟩ : ∃ y,sl[j]? = some y := ⟨_,List.getElem?_eq_getElem (by omega)⟩
 refine kOD 0 [8,9,10,11,12,19,21,22,23,174] [(174,.v (.bool true))] (.slice (some ⟨g5,0,none⟩) W W) rfl (fun _ _ _ ww hr => ldP_run (off := 0) (B := w.heap.size) (g := gh) (T := 78) (cs := [.slice (some ⟨g5,0,none⟩) W W]) hr rfl (by kernel_rfl) (by simp) (by kernel_rfl)) ?_
 refine kOD 1 [8,9,10,11,12,19,21,22,23,174,175,176] [(176,.v (.int .i64 (j : Int)))] (.pointer (some ⟨g5,j * 1,none⟩)) rfl (fun _ _ _ ww hr => act_ix (kd := .i64) (T := 78) (e := 4) (K := 1) (g := g5) (N := W) (cap := W) j rfl hr.1 rfl rfl (by kernel_rfl) (by kernel_rfl) (by kernel_rfl) hlt6 ww) ?_
 refine kOD 0 [8,9,10,11,12,19,21,22,23,174,177] [] (.bool (decide (0 ≤ y3))) rfl (fun _ _ _ ww hr => ldR_run (po := 0) (j := j) (row := [.bool (decide (0 ≤ y3))]) (rowF w.heap.size 4 1 (.slice (some ⟨g5,0,none⟩) W W) ((hvOf W sl).map boolRow)) hr rfl (by kernel_rfl) (by simp) (by simp only [List.getElem?_map,hvOf_get hlt6 hy3]; rfl) (by kernel_rfl) rfl rfl rfl) ?_
 refine kED [8,9,10,11,12,19,21,22,23,179] [(179,.v (.bool (decide (0 ≤ y3))))] ?_
 refine kC (decide (0 ≤ y3)) (fun h23 => ?_) (fun h23 => ?_)
 have h23p := of_decide_eq_true h23
 have hy3p := of_decide_eq_true h23
 refine kK ?_
 refine xw_block ?_
 refine kG ?_
 refine kRS 3 [8,9,10,11,12,19,21,22,23] [(8,.p 1 0),(9,.p 2 0),(10,.v (.int .i64 (W : Int))),(11,.v (.pointer (some ⟨gd,0,none⟩))),(12,.v (.pointer (some ⟨gh,0,none⟩))),(19,.p 3 0),(21,.v (.int .i64 (n2 : Int))),(22,.v (.int .i64 (IntKind.i64.wrap ((j : Int) + 1)))),(23,.v (.int .i64 (i : Int)))] ?_
 refine xl_eqS (t' := [(8,.p 1 0),(9,.p 2 0),(10,.v (.int .i64 (W : Int))),(11,.v (.pointer (some ⟨gd,0,none⟩))),(12,.v (.pointer (some ⟨gh,0,none⟩))),(19,.p 3 0),(21,.v (.int .i64 (n2 : Int))),(22,.v (.int .i64 ((j : Int) + 1))),(23,.v (.int .i64 (i : Int)))]) (by rw [show (IntKind.i64.wrap ((j : Int) + 1)) = ((j : Int) + 1) from wrap_id (by omega) (by omega)]) ?_
 refine kED [8,9,10,11,12,19,21,22,23] [] ?_
 exact ⟨⟨(j + 1),⟨(by (try dsimp only); omega),run_more hij.1 hrun hy3 (by omega)⟩⟩,kF 4 0 [8,9,10,11,12,19,21,22,23],by show (fun (j : Nat) => W - j) (j + 1) < W - j; (dsimp only; omega)⟩
 have h23p := of_decide_eq_false h23
 have hy3p := of_decide_eq_false h23
 refine xw_exit ?_
 exact ⟨⟨(j),⟨(by first | omega | (have hne : i ≠ j := (fun e => (by subst e; rw [hy2] at hy3; simp only [Option.some.injEq] at hy3; omega)); omega)),hrun,(by first | exact fun z hz => by rw [hy3] at hz; simp only [Option.some.injEq] at hz; omega | exact fun z hz => by rw [hbe j (by omega) (by omega)] at hz; simp only [Option.some.injEq] at hz; omega)⟩⟩,kF 4 0 [8,9,10,11,12,19,21,22,23]⟩
 have h22p := of_decide_eq_false h22
 have hge6 : j = W := by simp at h22; omega
 refine kED [8,9,10,11,12,19,21,22,23,179] [(179,.v (.bool false))] ?_
 refine kN ?_
 refine xw_exit ?_
 exact ⟨⟨(j),⟨(by first | omega | (have hne : i ≠ j := (fun e => (by subst e; rw [hy2] at hy3; simp only [Option.some.injEq] at hy3; omega)); omega)),hrun,(by first | exact fun z hz => by rw [hy3] at hz; simp only [Option.some.injEq] at hz; omega | exact fun z hz => by rw [hbe j (by omega) (by omega)] at hz; simp only [Option.some.injEq] at hz; omega)⟩⟩,kF 4 0 [8,9,10,11,12,19,21,22,23]⟩
 rintro ⟨j,hij,hrun,hstop⟩
 try dsimp only
 try dsimp only at hij hrun hstop
 refine xw_joinE (α := Option Addr × Nat × Nat) (fun y => (fun (v27a : Option Addr) (v27c : Nat) (g25 : Nat) => (⟨[(8,.p 1 0),(9,.p 2 0),(10,.v (.int .i64 (W : Int))),(11,.v (.pointer (some ⟨gd,0,none⟩))),(12,.v (.pointer (some ⟨gh,0,none⟩))),(19,.p 3 0),(21,.v (.int .i64 (n2 : Int))),(22,.v (.int .i64 (j : Int)))],[⟨28,rcvL r (.slice Arh r.held.length Crh)⟩,⟨28,rcvZ⟩,⟨28,rcvL r (.slice v1a r.held.length v1c)⟩,⟨28,[.int .i64 (seqAdd r.next (n2 : Int)),.string (r.data ++ (bstr (sl.take n2))),.slice v27a ((out ++ ([⟨((i - n2 : Nat) : Int),bstr (((dtOf W sl).drop i).take (j - i))⟩] : List Pce)).length) v27c,.int .i64 fp,.bool r.done]⟩],[],[rowF w.heap.size 81 2 (.slice v27a ((out ++ ([⟨((i - n2 : Nat) : Int),bstr (((dtOf W sl).drop i).take (j - i))⟩] : List Pce)).length) v27c) ((out ++ ([⟨((i - n2 : Nat) : Int),bstr (((dtOf W sl).drop i).take (j - i))⟩] : List Pce)).map pceCells),rowF w.heap.size 81 2 (.slice (some ⟨g25,0,none⟩) 1 1) (([⟨((i - n2 : Nat) : Int),bstr (((dtOf W sl).drop i).take (j - i))⟩] : List Pce).map pceCells),cellF w.heap.size gh 78 [.slice (some ⟨g5,0,none⟩) W W],cellF w.heap.size gd 59 [.slice (some ⟨g4,0,none⟩) W W],rowF w.heap.size 4 1 (.slice (some ⟨g5,0,none⟩) W W) ((hvOf W sl).map boolRow),rowF w.heap.size 5 1 (.slice (some ⟨g4,0,none⟩) W W) ((dtOf W sl).map byteRow),ownF w.heap.size (.slice v1a r.held.length v1c) 2 (r.held.map pceCells),slF (.slice Arh r.held.length Crh) 2 (r.held.map pceCells)]⟩ : St)) y.1 y.2.1 y.2.2) ?_ ?_
 refine xe_region0 [true,true,true,false] (by kernel_rfl) (fun ρ σ => ?_)
 refine kTS [0,2,3,4,6,7] [189,188,186,182,8,9,10,11,12,19,21,22] 9 [(189,.v (.int .i64 (j : Int))),(188,.v (.int .i64 (i : Int))),(186,.v (.int .i64 (IntKind.i64.wrap ((i : Int) - (n2 : Int))))),(182,.p 3 2),(8,.p 1 0),(9,.p 2 0),(10,.v (.int .i64 (W : Int))),(11,.v (.pointer (some ⟨gd,0,none⟩))),(12,.v (.pointer (some ⟨gh,0,none⟩))),(19,.p 3 0),(21,.v (.int .i64 (n2 : Int))),(22,.v (.int .i64 (j : Int)))] ?_
 refine xe_eqS (t := [(189,.v (.int .i64 (j : Int))),(188,.v (.int .i64 (i : Int))),(186,.v (.int .i64 (IntKind.i64.wrap ((i : Int) - (n2 : Int))))),(182,.p 3 2),(8,.p 1 0),(9,.p 2 0),(10,.v (.int .i64 (W : Int))),(11,.v (.pointer (some ⟨gd,0,none⟩))),(12,.v (.pointer (some ⟨gh,0,none⟩))),(19,.p 3 0),(21,.v (.int .i64 (n2 : Int))),(22,.v (.int .i64 (j : Int)))]) (t' := [(189,.v (.int .i64 (j : Int))),(188,.v (.int .i64 (i : Int))),(186,.v (.int .i64 ((i - n2 : Nat) : Int))),(182,.p 3 2),(8,.p 1 0),(9,.p 2 0),(10,.v (.int .i64 (W : Int))),(11,.v (.pointer (some ⟨gd,0,none⟩))),(12,.v (.pointer (some ⟨gh,0,none⟩))),(19,.p 3 0),(21,.v (.int .i64 (n2 : Int))),(22,.v (.int .i64 (j : Int)))]) (by rw [show (IntKind.i64.wrap ((i : Int) - (n2 : Int))) = ((i - n2 : Nat) : Int) from by rw [wrap_id (by omega) (by omega)]; omega]) ?_
 refine kA [1,5] ⟨?_,?_⟩
 refine kSV 1 (.v (.slice A1 out.length c1)) rfl ?_
 refine kA [5] ?_
 refine kSR 5 (.slice (some ⟨g4,0,none⟩) W W) rfl (fun _ _ ww hr => ldP_run (off := 0) (B := w.heap.size) (g := gd) (T := 59) (cs := [.slice (some ⟨g4,0,none⟩) W W]) hr rfl (by kernel_rfl) (by simp) (by kernel_rfl)) ?_
 refine kA [8] ?_
 refine kSR 8 (.slice (if W = i then (some ⟨g4,0,none⟩ : Option Addr) else (some ⟨g4,0,none⟩ : Option Addr).map (·.add (i * 1))) (j - i) (W - i)) rfl (fun _ _ ww hr => act_slV (e := 5) (A := some ⟨g4,0,none⟩) (len := W) (cap := W) (K := 1) (k := .i64) (p' := (i : Int)) (k' := .i64) (q' := (j : Int)) i j hr.1 rfl (by kernel_rfl) (by kernel_rfl) (by kernel_rfl) (by kernel_rfl) (by kernel_rfl) rfl rfl (by omega) (Nat.le_trans (show j ≤ W by omega) (Sl.capLe (rowF_sl (hr.2.fact (rowF w.heap.size 5 1 (.slice (some ⟨g4,0,none⟩) W W) ((dtOf W sl).map byteRow)) (by simp)).1))) ww) ?_
 refine kA [9] ?_
 refine kSR 9 (.string (bstr (((dtOf W sl).drop i).take (j - i)))) rfl (fun _ _ ww hr => act_b2s (e := 5) (((dtOf W sl).drop i).take (j - i)) hr.1 rfl (by kernel_rfl) (by kernel_rfl) (by kernel_rfl) rfl (Sl.partM (rowF_sl (hr.2.fact (rowF w.heap.size 5 1 (.slice (some ⟨g4,0,none⟩) W W) ((dtOf W sl).map byteRow)) (by simp)).1) i j (by omega) (by omega))) ?_
 refine kX 10 (.agg (pceL (⟨((i - n2 : Nat) : Int),bstr (((dtOf W sl).drop i).take (j - i))⟩ : Pce)).toArray) rfl (fun _ _ ww hA => act_build [(0,.int .i64 ((i - n2 : Nat) : Int)),(1,.string (bstr (((dtOf W sl).drop i).take (j - i))))] hA rfl (by kernel_rfl) (by kernel_rfl) ww) ?_
 refine kA [11] ?_
 refine kSH 11 rfl (under_t (under_t (under_t (under_f rfl under_nil)))) (hv_build (e := 81) (K := 2) (bytes := 24) [.agg (pceL (⟨((i - n2 : Nat) : Int),bstr (((dtOf W sl).drop i).take (j - i))⟩ : Pce)).toArray] rfl (by kernel_rfl) (by kernel_rfl) (by kernel_rfl) (by kernel_rfl) (by kernel_rfl) (rs := ([⟨((i - n2 : Nat) : Int),bstr (((dtOf W sl).drop i).take (j - i))⟩] : List Pce).map pceCells) rfl) ?_
 intro g25
 refine kA [12] ?_
 refine kSH 12 rfl (under_t (under_t (under_t (under_f rfl under_nil)))) (hv_append (e := 81) (K := 2) (bytes := 24) (i := 1) (q := (out ++ ([⟨((i - n2 : Nat) : Int),bstr (((dtOf W sl).drop i).take (j - i))⟩] : List Pce)).length) (new := ([⟨((i - n2 : Nat) : Int),bstr (((dtOf W sl).drop i).take (j - i))⟩] : List Pce).map pceCells) (rs' := (out ++ ([⟨((i - n2 : Nat) : Int),bstr (((dtOf W sl).drop i).take (j - i))⟩] : List Pce)).map pceCells) rfl rfl rfl rfl (by kernel_rfl) (by kernel_rfl) (by kernel_rfl) rfl (by first | (simp; done) | (simp; omega)) (by rw [List.map_append]) (by first | (simp; done) | (simp; omega)) (fun ww hf => (rowF_sl (hf (rowF w.heap.size 81 2 (.slice (some ⟨g25,0,none⟩) 1 1) (([⟨((i - n2 : Nat) : Int),bstr (((dtOf W sl).drop i).take (j - i))⟩] : List Pce).map pceCells)) (by simp)))) (by intro r hr; obtain ⟨x,hx,rfl⟩ := List.mem_map.1 hr; exact ⟨rfl,by simp [pceCells,Value.oneCell']⟩) (by (try simp only [List.length_map,List.length_append,List.length_cons,List.length_nil,List.length_take,List.length_drop,maxLen]); omega) (by (try simp only [List.length_map,List.length_append,List.length_cons,List.length_nil,List.length_take,List.length_drop,maxLen]); omega)) ?_
 rintro ⟨v27a,v27c⟩
 refine kTS [13] [195,194,8,9,10,11,12,19,21,22] 1 [(195,.p 3 2),(194,.v (.slice v27a ((out ++ ([⟨((i - n2 : Nat) : Int),bstr (((dtOf W sl).drop i).take (j - i))⟩] : List Pce)).length) v27c)),(8,.p 1 0),(9,.p 2 0),(10,.v (.int .i64 (W : Int))),(11,.v (.pointer (some ⟨gd,0,none⟩))),(12,.v (.pointer (some ⟨gh,0,none⟩))),(19,.p 3 0),(21,.v (.int .i64 (n2 : Int))),(22,.v (.int .i64 (j : Int)))] ?_
 refine kA [14] ?_
 refine kSS 14 3 2 [.slice v27a ((out ++ ([⟨((i - n2 : Nat) : Int),bstr (((dtOf W sl).drop i).take (j - i))⟩] : List Pce)).length) v27c] rfl ?_
 refine kZ ?_
 exact ⟨(v27a,v27c,g25),kF 4 0 [8,9,10,11,12,19,21,22]⟩
 refine kSR 5 (.slice (some ⟨g4,0,none⟩) W W) rfl (fun _ _ ww hr => ldP_run (off := 0) (B := w.heap.size) (g := gd) (T := 59) (cs := [.slice (some ⟨g4,0,none⟩) W W]) hr rfl (by kernel_rfl) (by simp) (by kernel_rfl)) ?_
 refine kA [1,8] ⟨?_,?_⟩
 refine kSV 1 (.v (.slice A1 out.length c1)) rfl ?_
 refine kA [8] ?_
 refine kSR 8 (.slice (if W = i then (some ⟨g4,0,none⟩ : Option Addr) else (some ⟨g4,0,none⟩ : Option Addr).map (·.add (i * 1))) (j - i) (W - i)) rfl (fun _ _ ww hr => act_slV (e := 5) (A := some ⟨g4,0,none⟩) (len := W) (cap := W) (K := 1) (k := .i64) (p' := (i : Int)) (k' := .i64) (q' := (j : Int)) i j hr.1 rfl (by kernel_rfl) (by kernel_rfl) (by kernel_rfl) (by kernel_rfl) (by kernel_rfl) rfl rfl (by omega) (Nat.le_trans (show j ≤ W by omega) (Sl.capLe (rowF_sl (hr.2.fact (rowF w.heap.size 5 1 (.slice (some ⟨g4,0,none⟩) W W) ((dtOf W sl).map byteRow)) (by simp)).1))) ww) ?_
 refine kA [9] ?_
 refine kSR 9 (.string (bstr (((dtOf W sl).drop i).take (j - i)))) rfl (fun _ _ ww hr => act_b2s (e := 5) (((dtOf W sl).drop i).take (j - i)) hr.1 rfl (by kernel_rfl) (by kernel_rfl) (by kernel_rfl) rfl (Sl.partM (rowF_sl (hr.2.fact (rowF w.heap.size 5 1 (.slice (some ⟨g4,0,none⟩) W W) ((dtOf W sl).map byteRow)) (by simp)).1) i j (by omega) (by omega))) ?_
 refine kX 10 (.agg (pceL (⟨((i - n2 : Nat) : Int),bstr (((dtOf W sl).drop i).take (j - i))⟩ : Pce)).toArray) rfl (fun _ _ ww hA => act_build [(0,.int .i64 ((i - n2 : Nat) : Int)),(1,.string (bstr (((dtOf W sl).drop i).take (j - i))))] hA rfl (by kernel_rfl) (by kernel_rfl) ww) ?_
 refine kA [11] ?_
 refine kSH 11 rfl (under_t (under_t (under_t (under_f rfl under_nil)))) (hv_build (e := 81) (K := 2) (bytes := 24) [.agg (pceL (⟨((i - n2 : Nat) : Int),bstr (((dtOf W sl).drop i).take (j - i))⟩ : Pce)).toArray] rfl (by kernel_rfl) (by kernel_rfl) (by kernel_rfl) (by kernel_rfl) (by kernel_rfl) (rs := ([⟨((i - n2 : Nat) : Int),bstr (((dtOf W sl).drop i).take (j - i))⟩] : List Pce).map pceCells) rfl) ?_
 intro g29
 refine kA [12] ?_
 refine kSH 12 rfl (under_t (under_t (under_t (under_f rfl under_nil)))) (hv_append (e := 81) (K := 2) (bytes := 24) (i := 1) (q := (out ++ ([⟨((i - n2 : Nat) : Int),bstr (((dtOf W sl).drop i).take (j - i))⟩] : List Pce)).length) (new := ([⟨((i - n2 : Nat) : Int),bstr (((dtOf W sl).drop i).take (j - i))⟩] : List Pce).map pceCells) (rs' := (out ++ ([⟨((i - n2 : Nat) : Int),bstr (((dtOf W sl).drop i).take (j - i))⟩] : List Pce)).map pceCells) rfl rfl rfl rfl (by kernel_rfl) (by kernel_rfl) (by kernel_rfl) rfl (by first | (simp; done) | (simp; omega)) (by rw [List.map_append]) (by first | (simp; done) | (simp; omega)) (fun ww hf => (rowF_sl (hf (rowF w.heap.size 81 2 (.slice (some ⟨g29,0,none⟩) 1 1) (([⟨((i - n2 : Nat) : Int),bstr (((dtOf W sl).drop i).take (j - i))⟩] : List Pce).map pceCells)) (by simp)))) (by intro r hr; obtain ⟨x,hx,rfl⟩ := List.mem_map.1 hr; exact ⟨rfl,by simp [pceCells,Value.oneCell']⟩) (by (try simp only [List.length_map,List.length_append,List.length_cons,List.length_nil,List.length_take,List.length_drop,maxLen]); omega) (by (try simp only [List.length_map,List.length_append,List.length_cons,List.length_nil,List.length_take,List.length_drop,maxLen]); omega)) ?_
 rintro ⟨v31a,v31c⟩
 refine kTS [13] [195,194,8,9,10,11,12,19,21,22] 1 [(195,.p 3 2),(194,.v (.slice v31a ((out ++ ([⟨((i - n2 : Nat) : Int),bstr (((dtOf W sl).drop i).take (j - i))⟩] : List Pce)).length) v31c)),(8,.p 1 0),(9,.p 2 0),(10,.v (.int .i64 (W : Int))),(11,.v (.pointer (some ⟨gd,0,none⟩))),(12,.v (.pointer (some ⟨gh,0,none⟩))),(19,.p 3 0),(21,.v (.int .i64 (n2 : Int))),(22,.v (.int .i64 (j : Int)))] ?_
 refine kA [14] ?_
 refine kSS 14 3 2 [.slice v31a ((out ++ ([⟨((i - n2 : Nat) : Int),bstr (((dtOf W sl).drop i).take (j - i))⟩] : List Pce)).length) v31c] rfl ?_
 refine kZ ?_
 exact ⟨(v31a,v31c,g29),kF 4 0 [8,9,10,11,12,19,21,22]⟩
 refine kSR 8 (.slice (if W = i then (some ⟨g4,0,none⟩ : Option Addr) else (some ⟨g4,0,none⟩ : Option Addr).map (·.add (i * 1))) (j - i) (W - i)) rfl (fun _ _ ww hr => act_slV (e := 5) (A := some ⟨g4,0,none⟩) (len := W) (cap := W) (K := 1) (k := .i64) (p' := (i : Int)) (k' := .i64) (q' := (j : Int)) i j hr.1 rfl (by kernel_rfl) (by kernel_rfl) (by kernel_rfl) (by kernel_rfl) (by kernel_rfl) rfl rfl (by omega) (Nat.le_trans (show j ≤ W by omega) (Sl.capLe (rowF_sl (hr.2.fact (rowF w.heap.size 5 1 (.slice (some ⟨g4,0,none⟩) W W) ((dtOf W sl).map byteRow)) (by simp)).1))) ww) ?_
 refine kA [1,9] ⟨?_,?_⟩
 refine kSV 1 (.v (.slice A1 out.length c1)) rfl ?_
 refine kA [9] ?_
 refine kSR 9 (.string (bstr (((dtOf W sl).drop i).take (j - i)))) rfl (fun _ _ ww hr => act_b2s (e := 5) (((dtOf W sl).drop i).take (j - i)) hr.1 rfl (by kernel_rfl) (by kernel_rfl) (by kernel_rfl) rfl (Sl.partM (rowF_sl (hr.2.fact (rowF w.heap.size 5 1 (.slice (some ⟨g4,0,none⟩) W W) ((dtOf W sl).map byteRow)) (by simp)).1) i j (by omega) (by omega))) ?_
 refine kX 10 (.agg (pceL (⟨((i - n2 : Nat) : Int),bstr (((dtOf W sl).drop i).take (j - i))⟩ : Pce)).toArray) rfl (fun _ _ ww hA => act_build [(0,.int .i64 ((i - n2 : Nat) : Int)),(1,.string (bstr (((dtOf W sl).drop i).take (j - i))))] hA rfl (by kernel_rfl) (by kernel_rfl) ww) ?_
 refine kA [11] ?_
 refine kSH 11 rfl (under_t (under_t (under_t (under_f rfl under_nil)))) (hv_build (e := 81) (K := 2) (bytes := 24) [.agg (pceL (⟨((i - n2 : Nat) : Int),bstr (((dtOf W sl).drop i).take (j - i))⟩ : Pce)).toArray] rfl (by kernel_rfl) (by kernel_rfl) (by kernel_rfl) (by kernel_rfl) (by kernel_rfl) (rs := ([⟨((i - n2 : Nat) : Int),bstr (((dtOf W sl).drop i).take (j - i))⟩] : List Pce).map pceCells) rfl) ?_
 intro g33
 refine kA [12] ?_
 refine kSH 12 rfl (under_t (under_t (under_t (under_f rfl under_nil)))) (hv_append (e := 81) (K := 2) (bytes := 24) (i := 1) (q := (out ++ ([⟨((i - n2 : Nat) : Int),bstr (((dtOf W sl).drop i).take (j - i))⟩] : List Pce)).length) (new := ([⟨((i - n2 : Nat) : Int),bstr (((dtOf W sl).drop i).take (j - i))⟩] : List Pce).map pceCells) (rs' := (out ++ ([⟨((i - n2 : Nat) : Int),bstr (((dtOf W sl).drop i).take (j - i))⟩] : List Pce)).map pceCells) rfl rfl rfl rfl (by kernel_rfl) (by kernel_rfl) (by kernel_rfl) rfl (by first | (simp; done) | (simp; omega)) (by rw [List.map_append]) (by first | (simp; done) | (simp; omega)) (fun ww hf => (rowF_sl (hf (rowF w.heap.size 81 2 (.slice (some ⟨g33,0,none⟩) 1 1) (([⟨((i - n2 : Nat) : Int),bstr (((dtOf W sl).drop i).take (j - i))⟩] : List Pce).map pceCells)) (by simp)))) (by intro r hr; obtain ⟨x,hx,rfl⟩ := List.mem_map.1 hr; exact ⟨rfl,by simp [pceCells,Value.oneCell']⟩) (by (try simp only [List.length_map,List.length_append,List.length_cons,List.length_nil,List.length_take,List.length_drop,maxLen]); omega) (by (try simp only [List.length_map,List.length_append,List.length_cons,List.length_nil,List.length_take,List.length_drop,maxLen]); omega)) ?_
 rintro ⟨v35a,v35c⟩
 refine kTS [13] [195,194,8,9,10,11,12,19,21,22] 1 [(195,.p 3 2),(194,.v (.slice v35a ((out ++ ([⟨((i - n2 : Nat) : Int),bstr (((dtOf W sl).drop i).take (j - i))⟩] : List Pce)).length) v35c)),(8,.p 1 0),(9,.p 2 0),(10,.v (.int .i64 (W : Int))),(11,.v (.pointer (some ⟨gd,0,none⟩))),(12,.v (.pointer (some ⟨gh,0,none⟩))),(19,.p 3 0),(21,.v (.int .i64 (n2 : Int))),(22,.v (.int .i64 (j : Int)))] ?_
 refine kA [14] ?_
 refine kSS 14 3 2 [.slice v35a ((out ++ ([⟨((i - n2 : Nat) : Int),bstr (((dtOf W sl).drop i).take (j - i))⟩] : List Pce)).length) v35c] rfl ?_
 refine kZ ?_
 exact ⟨(v35a,v35c,g33),kF 4 0 [8,9,10,11,12,19,21,22]⟩
 refine kSR 9 (.string (bstr (((dtOf W sl).drop i).take (j - i)))) rfl (fun _ _ ww hr => act_b2s (e := 5) (((dtOf W sl).drop i).take (j - i)) hr.1 rfl (by kernel_rfl) (by kernel_rfl) (by kernel_rfl) rfl (Sl.partM (rowF_sl (hr.2.fact (rowF w.heap.size 5 1 (.slice (some ⟨g4,0,none⟩) W W) ((dtOf W sl).map byteRow)) (by simp)).1) i j (by omega) (by omega))) ?_
 refine kX 10 (.agg (pceL (⟨((i - n2 : Nat) : Int),bstr (((dtOf W sl).drop i).take (j - i))⟩ : Pce)).toArray) rfl (fun _ _ ww hA => act_build [(0,.int .i64 ((i - n2 : Nat) : Int)),(1,.string (bstr (((dtOf W sl).drop i).take (j - i))))] hA rfl (by kernel_rfl) (by kernel_rfl) ww) ?_
 refine kA [1,11] ⟨?_,?_⟩
 refine kSV 1 (.v (.slice A1 out.length c1)) rfl ?_
 refine kA [11] ?_
 refine kSH 11 rfl (under_t (under_t (under_t (under_f rfl under_nil)))) (hv_build (e := 81) (K := 2) (bytes := 24) [.agg (pceL (⟨((i - n2 : Nat) : Int),bstr (((dtOf W sl).drop i).take (j - i))⟩ : Pce)).toArray] rfl (by kernel_rfl) (by kernel_rfl) (by kernel_rfl) (by kernel_rfl) (by kernel_rfl) (rs := ([⟨((i - n2 : Nat) : Int),bstr (((dtOf W sl).drop i).take (j - i))⟩] : List Pce).map pceCells) rfl) ?_
 intro g38
 refine kA [12] ?_
 refine kSH 12 rfl (under_t (under_t (under_t (under_f rfl under_nil)))) (hv_append (e := 81) (K := 2) (bytes := 24) (i := 1) (q := (out ++ ([⟨((i - n2 : Nat) : Int),bstr (((dtOf W sl).drop i).take (j - i))⟩] : List Pce)).length) (new := ([⟨((i - n2 : Nat) : Int),bstr (((dtOf W sl).drop i).take (j - i))⟩] : List Pce).map pceCells) (rs' := (out ++ ([⟨((i - n2 : Nat) : Int),bstr (((dtOf W sl).drop i).take (j - i))⟩] : List Pce)).map pceCells) rfl rfl rfl rfl (by kernel_rfl) (by kernel_rfl) (by kernel_rfl) rfl (by first | (simp; done) | (simp; omega)) (by rw [List.map_append]) (by first | (simp; done) | (simp; omega)) (fun ww hf => (rowF_sl (hf (rowF w.heap.size 81 2 (.slice (some ⟨g38,0,none⟩) 1 1) (([⟨((i - n2 : Nat) : Int),bstr (((dtOf W sl).drop i).take (j - i))⟩] : List Pce).map pceCells)) (by simp)))) (by intro r hr; obtain ⟨x,hx,rfl⟩ := List.mem_map.1 hr; exact ⟨rfl,by simp [pceCells,Value.oneCell']⟩) (by (try simp only [List.length_map,List.length_append,List.length_cons,List.length_nil,List.length_take,List.length_drop,maxLen]); omega) (by (try simp only [List.length_map,List.length_append,List.length_cons,List.length_nil,List.length_take,List.length_drop,maxLen]); omega)) ?_
 rintro ⟨v40a,v40c⟩
 refine kTS [13] [195,194,8,9,10,11,12,19,21,22] 1 [(195,.p 3 2),(194,.v (.slice v40a ((out ++ ([⟨((i - n2 : Nat) : Int),bstr (((dtOf W sl).drop i).take (j - i))⟩] : List Pce)).length) v40c)),(8,.p 1 0),(9,.p 2 0),(10,.v (.int .i64 (W : Int))),(11,.v (.pointer (some ⟨gd,0,none⟩))),(12,.v (.pointer (some ⟨gh,0,none⟩))),(19,.p 3 0),(21,.v (.int .i64 (n2 : Int))),(22,.v (.int .i64 (j : Int)))] ?_
 refine kA [14] ?_
 refine kSS 14 3 2 [.slice v40a ((out ++ ([⟨((i - n2 : Nat) : Int),bstr (((dtOf W sl).drop i).take (j - i))⟩] : List Pce)).length) v40c] rfl ?_
 refine kZ ?_
 exact ⟨(v40a,v40c,g38),kF 4 0 [8,9,10,11,12,19,21,22]⟩
 refine kSH 11 rfl (under_t (under_t (under_t (under_f rfl under_nil)))) (hv_build (e := 81) (K := 2) (bytes := 24) [.agg (pceL (⟨((i - n2 : Nat) : Int),bstr (((dtOf W sl).drop i).take (j - i))⟩ : Pce)).toArray] rfl (by kernel_rfl) (by kernel_rfl) (by kernel_rfl) (by kernel_rfl) (by kernel_rfl) (rs := ([⟨((i - n2 : Nat) : Int),bstr (((dtOf W sl).drop i).take (j - i))⟩] : List Pce).map pceCells) rfl) ?_
 intro g41
 refine kA [1] ?_
 refine kSV 1 (.v (.slice A1 out.length c1)) rfl ?_
 refine kA [12] ?_
 refine kSH 12 rfl (under_t (under_t (under_t (under_f rfl under_nil)))) (hv_append (e := 81) (K := 2) (bytes := 24) (i := 1) (q := (out ++ ([⟨((i - n2 : Nat) : Int),bstr (((dtOf W sl).drop i).take (j - i))⟩] : List Pce)).length) (new := ([⟨((i - n2 : Nat) : Int),bstr (((dtOf W sl).drop i).take (j - i))⟩] : List Pce).map pceCells) (rs' := (out ++ ([⟨((i - n2 : Nat) : Int),bstr (((dtOf W sl).drop i).take (j - i))⟩] : List Pce)).map pceCells) rfl rfl rfl rfl (by kernel_rfl) (by kernel_rfl) (by kernel_rfl) rfl (by first | (simp; done) | (simp; omega)) (by rw [List.map_append]) (by first | (simp; done) | (simp; omega)) (fun ww hf => (rowF_sl (hf (rowF w.heap.size 81 2 (.slice (some ⟨g41,0,none⟩) 1 1) (([⟨((i - n2 : Nat) : Int),bstr (((dtOf W sl).drop i).take (j - i))⟩] : List Pce).map pceCells)) (by simp)))) (by intro r hr; obtain ⟨x,hx,rfl⟩ := List.mem_map.1 hr; exact ⟨rfl,by simp [pceCells,Value.oneCell']⟩) (by (try simp only [List.length_map,List.length_append,List.length_cons,List.length_nil,List.length_take,List.length_drop,maxLen]); omega) (by (try simp only [List.length_map,List.length_append,List.length_cons,List.length_nil,List.length_take,List.length_drop,maxLen]); omega)) ?_
 rintro ⟨v43a,v43c⟩
 refine kTS [13] [195,194,8,9,10,11,12,19,21,22] 1 [(195,.p 3 2),(194,.v (.slice v43a ((out ++ ([⟨((i - n2 : Nat) : Int),bstr (((dtOf W sl).drop i).take (j - i))⟩] : List Pce)).length) v43c)),(8,.p 1 0),(9,.p 2 0),(10,.v (.int .i64 (W : Int))),(11,.v (.pointer (some ⟨gd,0,none⟩))),(12,.v (.pointer (some ⟨gh,0,none⟩))),(19,.p 3 0),(21,.v (.int .i64 (n2 : Int))),(22,.v (.int .i64 (j : Int)))] ?_
 refine kA [14] ?_
 refine kSS 14 3 2 [.slice v43a ((out ++ ([⟨((i - n2 : Nat) : Int),bstr (((dtOf W sl).drop i).take (j - i))⟩] : List Pce)).length) v43c] rfl ?_
 refine kZ ?_
 exact ⟨(v43a,v43c,g41),kF 4 0 [8,9,10,11,12,19,21,22]⟩
 rintro ⟨v27a,v27c,g25⟩
 exact ⟨⟨(j,(out ++ ([⟨((i - n2 : Nat) : Int),bstr (((dtOf W sl).drop i).take (j - i))⟩] : List Pce)),v27a,v27c),⟨(by (try dsimp only); omega),(by rw [dt_part (by omega) hrun,HP]; exact pcs_piece (by omega) hij.1 (by omega) hrun (htc y2 hy2 (by omega))),(bd_more hbd (by omega) (by rw [bstr_size,List.length_take,List.length_drop,dtOf_len (by omega)]; omega)),(fun x hx h0 => by have := hstop x hx; omega),(by (try dsimp only); (try simp only [List.length_append,List.length_cons,List.length_nil]); omega)⟩⟩,(wk_pick [0,2,3,4,5,6,7] [rowF w.heap.size 81 2 (.slice v27a ((out ++ ([⟨((i - n2 : Nat) : Int),bstr (((dtOf W sl).drop i).take (j - i))⟩] : List Pce)).length) v27c) ((out ++ ([⟨((i - n2 : Nat) : Int),bstr (((dtOf W sl).drop i).take (j - i))⟩] : List Pce)).map pceCells),cellF w.heap.size gh 78 [.slice (some ⟨g5,0,none⟩) W W],cellF w.heap.size gd 59 [.slice (some ⟨g4,0,none⟩) W W],rowF w.heap.size 4 1 (.slice (some ⟨g5,0,none⟩) W W) ((hvOf W sl).map boolRow),rowF w.heap.size 5 1 (.slice (some ⟨g4,0,none⟩) W W) ((dtOf W sl).map byteRow),ownF w.heap.size (.slice v1a r.held.length v1c) 2 (r.held.map pceCells),slF (.slice Arh r.held.length Crh) 2 (r.held.map pceCells)] (by kernel_rfl) (by kernel_rfl)).trans <| kF 4 0 [8,9,10,11,12,19,21,22],by show (fun (i : Nat) (out : List Pce) (A1 : Option Addr) (c1 : Nat) => W - i) j (out ++ ([⟨((i - n2 : Nat) : Int),bstr (((dtOf W sl).drop i).take (j - i))⟩] : List Pce)) v27a v27c < W - i; (dsimp only; omega)⟩
 have h20p := of_decide_eq_false h20
 have hge5 : i = W := by simp at h20; omega
 have hpc : pcs [] 0 (sl.drop n2) = out := by rw [HP,hge5]; exact pcs_neg out _ _ (beyond_neg hbe hl)
 refine xw_exit ?_
 refine kS ?_
 refine kQ ?_
 refine kED [8,9,19,199] [(199,.v (.bool (decide (((out.length : Nat) : Int) > 3))))] ?_
 refine kC (decide (((out.length : Nat) : Int) > 3)) (fun h44 => ?_) (fun h44 => ?_)
 have h44p := of_decide_eq_true h44
 refine kQ ?_
 refine kEU [8] [(8,.p 1 0)] 1 ⟨28,rcvL r (.slice v1a r.held.length v1c)⟩ ?_
 refine kR ?_
 have hmod : arrived r seq text fin = r := by first | exact arrived_over hrk (by assumption) (by rw [← hall,← hnf,hpc]; omega) | (unfold arrived; rw [if_neg (by grind)]; done) | (unfold arrived; rw [if_pos (by grind),← hall,← hnf,hpc,← hfp]; first | (rw [if_pos (by omega)]; done) | (rw [if_neg (by omega),if_pos (by first | omega | simp_all)]; done) | (rw [if_neg (by omega),if_neg (by first | omega | simp_all)]; done))
 exact ⟨[.agg (rcvL r (.slice v1a r.held.length v1c)).toArray],by kernel_rfl,fun w' hb hf ha => by rw [hmod]; exact xo1 ((v1a,v1c)) rfl rfl (pO (hf _ m5) hB) hb⟩
 have h44p := of_decide_eq_false h44
 refine kK ?_
 refine kS ?_
 refine kQ ?_
 refine kED [8,19,203] [(203,.v (.bool (fp == 0)))] ?_
 refine kC (fp == 0) (fun h45 => ?_) (fun h45 => ?_)
 have h45p := eqT h45
 refine kQ ?_
 refine kEU [8,19] [] 3 ⟨28,[.int .i64 (seqAdd r.next (n2 : Int)),.string (r.data ++ (bstr (sl.take n2))),.slice A1 out.length c1,.int .i64 fp,.bool true]⟩ ?_
 refine kQ ?_
 refine kEU [8,19] [] 3 ⟨28,[.int .i64 (seqAdd r.next (n2 : Int)),.string (r.data ++ (bstr (sl.take n2))),.slice A1 out.length c1,.int .i64 (-1),.bool true]⟩ ?_
 refine kG ?_
 refine kCD 2 [8,19,207] [(207,.v (.int .i64 (seqAdd r.next (n2 : Int))))] 26 [.int .i64 (seqAdd r.next (n2 : Int)),.int .i64 1] (some 208) rfl (xc_s fun ww hf => iSeqAdd_c (seqAdd r.next (n2 : Int)) 1 ww ) ?_
 intro _
 refine kEF [8,19] ⟨[(8,.p 1 0),(19,.p 3 0)],[⟨28,rcvL r (.slice Arh r.held.length Crh)⟩,⟨28,rcvZ⟩,⟨28,rcvL r (.slice v1a r.held.length v1c)⟩,⟨28,[.int .i64 (seqAdd (seqAdd r.next (n2 : Int)) 1),.string (r.data ++ (bstr (sl.take n2))),.slice A1 out.length c1,.int .i64 (-1),.bool true]⟩],[],[rowF w.heap.size 81 2 (.slice A1 out.length c1) (out.map pceCells),cellF w.heap.size gh 78 [.slice (some ⟨g5,0,none⟩) W W],cellF w.heap.size gd 59 [.slice (some ⟨g4,0,none⟩) W W],rowF w.heap.size 4 1 (.slice (some ⟨g5,0,none⟩) W W) ((hvOf W sl).map boolRow),rowF w.heap.size 5 1 (.slice (some ⟨g4,0,none⟩) W W) ((dtOf W sl).map byteRow),ownF w.heap.size (.slice v1a r.held.length v1c) 2 (r.held.map pceCells),slF (.slice Arh r.held.length Crh) 2 (r.held.map pceCells)]⟩ ?_
 refine kQ ?_
 refine kEU [8] [(8,.p 1 0)] 1 ⟨28,[.int .i64 (seqAdd (seqAdd r.next (n2 : Int)) 1),.string (r.data ++ (bstr (sl.take n2))),.slice A1 out.length c1,.int .i64 (-1),.bool true]⟩ ?_
 refine kR ?_
 have hmod : arrived r seq text fin = (⟨seqAdd (seqAdd r.next (n2 : Int)) 1,r.data ++ (bstr (sl.take n2)),out,(-1),true⟩) := by first | exact arrived_over hrk (by assumption) (by rw [← hall,← hnf,hpc]; omega) | (unfold arrived; rw [if_neg (by grind)]; done) | (unfold arrived; rw [if_pos (by grind),← hall,← hnf,hpc,← hfp]; first | (rw [if_pos (by omega)]; done) | (rw [if_neg (by omega),if_pos (by first | omega | simp_all)]; done) | (rw [if_neg (by omega),if_neg (by first | omega | simp_all)]; done))
 exact ⟨[.agg #[.int .i64 (seqAdd (seqAdd r.next (n2 : Int)) 1),.string (r.data ++ (bstr (sl.take n2))),.slice A1 out.length c1,.int .i64 (-1),.bool true]],by kernel_rfl,fun w' hb hf ha => by rw [hmod]; exact xo1 ((A1,c1)) rfl rfl (pR (hf _ m0) hB) hb⟩
 have h45p := eqF h45
 refine kK ?_
 refine kQ ?_
 refine kEU [8] [(8,.p 1 0)] 1 ⟨28,[.int .i64 (seqAdd r.next (n2 : Int)),.string (r.data ++ (bstr (sl.take n2))),.slice A1 out.length c1,.int .i64 fp,.bool r.done]⟩ ?_
 refine kR ?_
 have hmod : arrived r seq text fin = (⟨seqAdd r.next (n2 : Int),r.data ++ (bstr (sl.take n2)),out,fp,r.done⟩) := by first | exact arrived_over hrk (by assumption) (by rw [← hall,← hnf,hpc]; omega) | (unfold arrived; rw [if_neg (by grind)]; done) | (unfold arrived; rw [if_pos (by grind),← hall,← hnf,hpc,← hfp]; first | (rw [if_pos (by omega)]; done) | (rw [if_neg (by omega),if_pos (by first | omega | simp_all)]; done) | (rw [if_neg (by omega),if_neg (by first | omega | simp_all)]; done))
 exact ⟨[.agg #[.int .i64 (seqAdd r.next (n2 : Int)),.string (r.data ++ (bstr (sl.take n2))),.slice A1 out.length c1,.int .i64 fp,.bool r.done]],by kernel_rfl,fun w' hb hf ha => by rw [hmod]; exact xo1 ((A1,c1)) rfl rfl (pR (hf _ m0) hB) hb⟩
theorem ymarkText_c (k : Int) (w : World) (hk : k ≤ 4611686018427387904) : Calls Try.prog 84 #[.int .i64 k] w fun e w' => e = .returned (.string (markText k)) ∧ Below w.heap.size w w' := by
 refine x_calls (args := [.int .i64 k]) (fn := Try.f84) [] Try.func84 rfl Try.ntmps84 rfl (by simp) ?_
 refine kQ ?_
 refine kEF [0] ⟨[(0,.v (.int .i64 k))],[],[],[]⟩ ?_
 refine kS ?_
 refine kQ ?_
 refine kES [0,5] [(0,.v (.int .i64 k)),(5,.v (.bool (decide (k ≤ 0))))] ?_
 refine kC (decide (k ≤ 0)) (fun h1 => ?_) (fun h1 => ?_)
 have h1p := of_decide_eq_true h1
 refine kQ ?_
 refine kES [2] [(2,.v (.string (⟨#[109,48]⟩ : ByteArray)))] ?_
 refine kR ?_
 have hmod : markText k = (⟨#[109,48]⟩ : ByteArray) := by first | rfl | (simp [markText, *]; done) | (rw [markText,if_neg (by omega),hE])
 exact ⟨[.string (⟨#[109,48]⟩ : ByteArray)],by kernel_rfl,fun w' hb hf => by rw [hmod]; exact ⟨rfl,hb⟩⟩
 have h1p := of_decide_eq_false h1
 refine kK ?_
 refine kQ ?_
 refine kES [0,3] [(0,.v (.int .i64 k)),(3,.v (.string (⟨#[]⟩ : ByteArray)))] ?_
 refine kS ?_
 refine xw_block ?_
 refine xw_loopW (α := {x : Int × ByteArray // (fun (z : Int) (out : ByteArray) => markLoop k (⟨#[]⟩ : ByteArray) = markLoop z out ∧ out.size + z.toNat ≤ k.toNat) x.1 x.2}) (fun x => (fun (z : Int) (out : ByteArray) => (⟨[(0,.v (.int .i64 z)),(3,.v (.string out))],[],[],[]⟩ : St)) x.1.1 x.1.2) (fun x => (fun (z : Int) (out : ByteArray) => z.toNat) x.1.1 x.1.2) ⟨(k,(⟨#[]⟩ : ByteArray)),⟨rfl,Nat.le_of_eq (Nat.zero_add _)⟩⟩ (kF 0 0 [0,3]) ?_
 rintro ⟨⟨z,out⟩,HK,hR⟩
 try dsimp only
 try dsimp only at HK hR
 refine kS ?_
 refine kQ ?_
 refine kES [0,3,7] [(0,.v (.int .i64 z)),(3,.v (.string out)),(7,.v (.bool (decide (z > 0))))] ?_
 refine kC (decide (z > 0)) (fun h2 => ?_) (fun h2 => ?_)
 have h2p := of_decide_eq_true h2
 have hz : 0 < z := by simpa using h2
 refine kK ?_
 refine xw_block ?_
 refine kQ ?_
 refine kOS 1 [0,3,8] [(0,.v (.int .i64 z)),(3,.v (.string out)),(8,.v (.int .i64 z))] (.int .i64 (Int.tmod z 10)) rfl (fun _ _ _ ww hr => act_bin hr.1 rfl (by kernel_rfl) (by kernel_rfl) (rem_run (by first | decide | omega) ww)) ?_
 refine kHS 2 [0,3,11] [(0,.v (.int .i64 z)),(3,.v (.string out)),(11,.v (.int .u8 (IntKind.u8.wrap (IntKind.i64.wrap (48 + (Int.tmod z 10))))))] rfl (hv_build (e := 5) (K := 1) (bytes := 1) [.int .u8 (IntKind.u8.wrap (IntKind.i64.wrap (48 + (Int.tmod z 10))))] rfl (by kernel_rfl) (by kernel_rfl) (by kernel_rfl) (by kernel_rfl) (by kernel_rfl) (rs := ([IntKind.u8.wrap (IntKind.i64.wrap (48 + (Int.tmod z 10)))] : List Int).map byteRow) rfl) ?_
 intro g3
 refine kOS 0 [0,3,12] [(0,.v (.int .i64 z)),(3,.v (.string out)),(12,.v (.slice (some ⟨g3,0,none⟩) 1 1))] (.string (bstr ([IntKind.u8.wrap (IntKind.i64.wrap (48 + (Int.tmod z 10)))] : List Int))) rfl (fun _ _ _ ww hr => act_b2s (e := 5) ([IntKind.u8.wrap (IntKind.i64.wrap (48 + (Int.tmod z 10)))] : List Int) hr.1 rfl (by kernel_rfl) (by kernel_rfl) (by kernel_rfl) rfl (rowF_sl (hr.2.fact (rowF w.heap.size 5 1 (.slice (some ⟨g3,0,none⟩) 1 1) (([IntKind.u8.wrap (IntKind.i64.wrap (48 + (Int.tmod z 10)))] : List Int).map byteRow)) (by simp)).1)) ?_
 refine kOS 1 [0,3,13,14] [(0,.v (.int .i64 z)),(3,.v (.string out)),(13,.v (.string (bstr ([IntKind.u8.wrap (IntKind.i64.wrap (48 + (Int.tmod z 10)))] : List Int)))),(14,.v (.string out))] (.string ((bstr ([IntKind.u8.wrap (IntKind.i64.wrap (48 + (Int.tmod z 10)))] : List Int)) ++ out)) rfl (fun _ _ _ ww hr => act_bin hr.1 rfl (by kernel_rfl) (by kernel_rfl) (str_add (mark_sz hz hR hk) ww)) ?_
 refine kRS 1 [0,3] [(0,.v (.int .i64 z)),(3,.v (.string ((bstr ([IntKind.u8.wrap (IntKind.i64.wrap (48 + (Int.tmod z 10)))] : List Int)) ++ out)))] ?_
 refine xl_eq (st' := ⟨[(0,.v (.int .i64 z)),(3,.v (.string ((bstr ([IntKind.u8.wrap (48 + z.tmod 10)] : List Int)) ++ out)))],[],[],[rowF w.heap.size 5 1 (.slice (some ⟨g3,0,none⟩) 1 1) (([IntKind.u8.wrap (48 + z.tmod 10)] : List Int).map byteRow)]⟩) (by rw [show (IntKind.i64.wrap (48 + (Int.tmod z 10))) = (48 + z.tmod 10) from wrap_tmod hz] <;> rfl) ?_
 refine kES [0,3] [(0,.v (.int .i64 z)),(3,.v (.string ((bstr ([IntKind.u8.wrap (48 + z.tmod 10)] : List Int)) ++ out)))] ?_
 refine kG ?_
 refine kOS 1 [0,3,16] [(0,.v (.int .i64 z)),(3,.v (.string ((bstr ([IntKind.u8.wrap (48 + z.tmod 10)] : List Int)) ++ out))),(16,.v (.int .i64 z))] (.int .i64 (IntKind.i64.wrap (Int.tdiv z 10))) rfl (fun _ _ _ ww hr => act_bin hr.1 rfl (by kernel_rfl) (by kernel_rfl) (quo_run (by decide) ww)) ?_
 refine kRS 1 [0,3] [(0,.v (.int .i64 (IntKind.i64.wrap (Int.tdiv z 10)))),(3,.v (.string ((bstr ([IntKind.u8.wrap (48 + z.tmod 10)] : List Int)) ++ out)))] ?_
 refine xl_eqS (t' := [(0,.v (.int .i64 (z.tdiv 10))),(3,.v (.string ((bstr ([IntKind.u8.wrap (48 + z.tmod 10)] : List Int)) ++ out)))]) (by rw [show (IntKind.i64.wrap (Int.tdiv z 10)) = (z.tdiv 10) from wrap_tdiv hz hR hk]) ?_
 refine kES [0,3] [(0,.v (.int .i64 (z.tdiv 10))),(3,.v (.string ((bstr ([IntKind.u8.wrap (48 + z.tmod 10)] : List Int)) ++ out)))] ?_
 exact ⟨⟨(z.tdiv 10,bstr [IntKind.u8.wrap (48 + z.tmod 10)] ++ out),⟨markLoop_step hz HK,mark_room hz hR⟩⟩,(wk_pick [] [] (by kernel_rfl) (by kernel_rfl)).trans <| kF 0 0 [0,3],by show (fun (z : Int) (out : ByteArray) => z.toNat) (z.tdiv 10) (bstr [IntKind.u8.wrap (48 + z.tmod 10)] ++ out) < z.toNat; exact mark_dec hz⟩
 have h2p := of_decide_eq_false h2
 have hz : ¬ 0 < z := by simpa using h2
 have hE := markLoop_end hz HK
 refine xw_exit ?_
 refine kQ ?_
 refine kOS 1 [18] [(18,.v (.string out))] (.string ((⟨#[109]⟩ : ByteArray) ++ out)) rfl (fun _ _ _ ww hr => act_bin hr.1 rfl (by kernel_rfl) (by kernel_rfl) (str_add (mark_sz0 hR hk) ww)) ?_
 refine kES [2] [(2,.v (.string ((⟨#[109]⟩ : ByteArray) ++ out)))] ?_
 refine kR ?_
 have hmod : markText k = ((⟨#[109]⟩ : ByteArray) ++ out) := by first | rfl | (simp [markText, *]; done) | (rw [markText,if_neg (by omega),hE])
 exact ⟨[.string ((⟨#[109]⟩ : ByteArray) ++ out)],by kernel_rfl,fun w' hb hf => by rw [hmod]; exact ⟨rfl,hb⟩⟩
theorem ymarkPieceS_c (v : Value) (l : List Pce) (k : Int) (w : World) (B : Nat) (hB : B ≤ w.heap.size) (h : Own w B v 2 (l.map pceCells)) (hk0 : 0 ≤ k) (hk : k ≤ 4503599627370496) (hl : l.length ≤ 1048576) : Calls Try.prog 46 #[v, .int .i64 k] w fun e w' => e = .returned (.int .i64 (k + 2 * (l.length : Int))) ∧ Own w' B v 2 ((marks mkP 2 k l.length).map pceCells) ∧ Chgd (ownF B v 2 (l.map pceCells)).blk w w' := by
 obtain ⟨A,cap,hv⟩ := h.form
 rw [List.length_map] at hv; subst hv
 refine x_callsM (args := [.slice A l.length cap,.int .i64 k]) (fn := Try.f46) [ownF B (.slice A l.length cap) 2 (l.map pceCells),frF w (ownF B (.slice A l.length cap) 2 (l.map pceCells)).blk] B Try.func46 rfl Try.ntmps46 rfl hB (by simp only [List.mem_cons,List.not_mem_nil,or_false,forall_eq_or_imp,forall_eq]; exact ⟨h,frF_start w _⟩) apart_fr ?_
 refine kQ ?_
 refine kEF [0,1] ⟨[(0,.v (.slice A l.length cap)),(1,.v (.int .i64 k))],[],[],[ownF B (.slice A l.length cap) 2 (l.map pceCells),frF w (ownF B (.slice A l.length cap) 2 (l.map pceCells)).blk]⟩ ?_
 refine kS ?_
 refine kQ ?_
 refine kES [0,1,5] [(0,.v (.slice A l.length cap)),(1,.v (.int .i64 k)),(5,.v (.int .i64 0))] ?_
 refine xw_block ?_
 have e0 : k + 2 * ((0 : Nat) : Int) = k := by omega
 refine xw_eq (st' := ⟨[(0,.v (.slice A l.length cap)),(1,.v (.int .i64 (k + 2 * ((0 : Nat) : Int)))),(5,.v (.int .i64 0))],[],[],[ownF B (.slice A l.length cap) 2 (l.map pceCells),frF w (ownF B (.slice A l.length cap) 2 (l.map pceCells)).blk]⟩) (by rw [e0]) ?_
 refine xw_loopW (α := {x : Nat // (fun (i : Nat) => i ≤ l.length) x}) (fun x => (fun (i : Nat) => (⟨[(0,.v (.slice A l.length cap)),(1,.v (.int .i64 (k + 2 * (i : Int)))),(5,.v (.int .i64 (i : Int)))],[],[],[ownF B (.slice A l.length cap) 2 ((marks mkP 2 k i ++ l.drop i).map pceCells),frF w (ownF B (.slice A l.length cap) 2 (l.map pceCells)).blk]⟩ : St)) x.1) (fun x => (fun (i : Nat) => l.length - i) x.1) ⟨(0),Nat.zero_le _⟩ (kF 0 0 [0,1,5]) ?_
 rintro ⟨i,hi⟩
 try dsimp only
 try dsimp only at hi
 refine kS ?_
 refine kQ ?_
 refine kES [0,1,5,9] [(0,.v (.slice A l.length cap)),(1,.v (.int .i64 (k + 2 * (i : Int)))),(5,.v (.int .i64 (i : Int))),(9,.v (.bool (decide ((i : Int) < ((l.length : Nat) : Int)))))] ?_
 refine kC (decide ((i : Int) < ((l.length : Nat) : Int))) (fun h1 => ?_) (fun h1 => ?_)
 have h1p := of_decide_eq_true h1
 have hlt : i < l.length := by simpa using h1
 obtain ⟨b,hb⟩ : ∃ b,b = k + 2 * (i : Int) := ⟨_,rfl⟩
 rw [← hb]
 obtain ⟨x,hx⟩ : ∃ x,l[i]? = some x := ⟨_,List.getElem?_eq_getElem hlt⟩
 refine xw_fact0 (g := ownF B (.slice A l.length cap) 2 (((marks mkP 2 k i ++ l.drop i).map pceCells).set i [.int .i64 x.off,.string x.text])) (congrArg (fun z => ownF B (.slice A l.length cap) 2 z) (mark_same (f := pceCells) (mk := mkP) (c := 2) (k := k) hx)) ?_
 refine kK ?_
 refine kS ?_
 refine xw_block ?_
 refine kQ ?_
 refine xl_elem (kd := .i64) (T := 26) (e := 81) (K := 2) (A := A) (len := l.length) (cap := cap) (rs := (((marks mkP 2 k i ++ l.drop i).map pceCells).set i [.int .i64 x.off,.string x.text])) 3 [0,1,5,12,13,14] ⟨[(0,.v (.slice A l.length cap)),(1,.v (.int .i64 b)),(5,.v (.int .i64 (i : Int))),(12,.v (.slice A l.length cap)),(13,.v (.int .i64 (i : Int))),(14,.v (.int .i64 b))],[],[],[ownF B (.slice A l.length cap) 2 (((marks mkP 2 k i ++ l.drop i).map pceCells).set i [.int .i64 x.off,.string x.text]),frF w (ownF B (.slice A l.length cap) 2 (l.map pceCells)).blk]⟩ i (ownF B (.slice A l.length cap) 2 (((marks mkP 2 k i ++ l.drop i).map pceCells).set i [.int .i64 x.off,.string x.text])) (by kernel_rfl) rfl (by kernel_rfl) (by kernel_rfl) rfl (by kernel_rfl) (by kernel_rfl) (by kernel_rfl) (by kernel_rfl) hlt (by simp) (fun ww h => Own.sl h) (by rw [List.length_set,mark_ln hi]; exact hlt) ?_
 intro b2 o3 hA4
 refine kOF 0 [0,1,5,14,15] ⟨[(0,.v (.slice A l.length cap)),(1,.v (.int .i64 b)),(5,.v (.int .i64 (i : Int))),(14,.v (.int .i64 b)),(15,.v (.pointer (some ⟨b2,o3 + i * 2,none⟩)))],[],[],[ownF B (.slice A l.length cap) 2 (((marks mkP 2 k i ++ l.drop i).map pceCells).set i [.int .i64 x.off,.string x.text]),frF w (ownF B (.slice A l.length cap) 2 (l.map pceCells)).blk]⟩ (.pointer (some ⟨b2,o3 + i * 2 + 0,none⟩)) rfl (fun _ _ _ ww hr => fld_run (sz := 1) hr rfl Try.underlying81 rfl (by kernel_rfl) rfl rfl (by first | rfl | omega)) ?_
 refine xl_stE (K := 2) (po := 0) (B := B) (rs := ((marks mkP 2 k i ++ l.drop i).map pceCells)) (row' := [.int .i64 b,.string x.text]) 0 [0,1,5,14,16] ⟨[(0,.v (.slice A l.length cap)),(1,.v (.int .i64 b)),(5,.v (.int .i64 (i : Int))),(14,.v (.int .i64 b)),(16,.v (.pointer (some ⟨b2,o3 + i * 2 + 0,none⟩)))],[],[],[ownF B (.slice A l.length cap) 2 (((marks mkP 2 k i ++ l.drop i).map pceCells).set i [.int .i64 x.off,.string x.text]),frF w (ownF B (.slice A l.length cap) 2 (l.map pceCells)).blk]⟩ i [.int .i64 x.off,.string x.text] 0 (by kernel_rfl) rfl (by kernel_rfl) rfl rfl rfl rfl (by kernel_rfl) (by kernel_rfl) rfl (cutW_le w B) hA4 (by rw [mark_ln hi]; exact hlt) (fun r hr => by obtain ⟨y,_,rfl⟩ := List.mem_map.1 hr; rfl) (by kernel_rfl) (by kernel_rfl) rfl rfl ?_
 refine kEF [0,1,5] ⟨[(0,.v (.slice A l.length cap)),(1,.v (.int .i64 b)),(5,.v (.int .i64 (i : Int)))],[],[],[ownF B (.slice A l.length cap) 2 (((marks mkP 2 k i ++ l.drop i).map pceCells).set i [.int .i64 b,.string x.text]),frF w (ownF B (.slice A l.length cap) 2 (l.map pceCells)).blk]⟩ ?_
 refine kQ ?_
 refine kRS 3 [0,1,5] [(0,.v (.slice A l.length cap)),(1,.v (.int .i64 (IntKind.i64.wrap (b + 1)))),(5,.v (.int .i64 (i : Int)))] ?_
 refine xl_eqS (t' := [(0,.v (.slice A l.length cap)),(1,.v (.int .i64 (b + 1))),(5,.v (.int .i64 (i : Int)))]) (by rw [show (IntKind.i64.wrap (b + 1)) = (b + 1) from wrap_id (by omega) (by omega)]) ?_
 refine kES [0,1,5] [(0,.v (.slice A l.length cap)),(1,.v (.int .i64 (b + 1))),(5,.v (.int .i64 (i : Int)))] ?_
 refine kQ ?_
 refine kCS 3 [0,1,5,19,20,21] [(0,.v (.slice A l.length cap)),(1,.v (.int .i64 (b + 1))),(5,.v (.int .i64 (i : Int))),(19,.v (.slice A l.length cap)),(20,.v (.int .i64 (i : Int))),(21,.v (.int .i64 (b + 1)))] 84 [.int .i64 (b + 1)] (some 22) rfl (xc_b fun ww hf => ymarkText_c (b + 1) ww  (by omega)) ?_
 intro _
 refine xl_elem (kd := .i64) (T := 26) (e := 81) (K := 2) (A := A) (len := l.length) (cap := cap) (rs := (((marks mkP 2 k i ++ l.drop i).map pceCells).set i [.int .i64 b,.string x.text])) 0 [0,1,5,19,20,22] ⟨[(0,.v (.slice A l.length cap)),(1,.v (.int .i64 (b + 1))),(5,.v (.int .i64 (i : Int))),(19,.v (.slice A l.length cap)),(20,.v (.int .i64 (i : Int))),(22,.v (.string (markText (b + 1))))],[],[],[ownF B (.slice A l.length cap) 2 (((marks mkP 2 k i ++ l.drop i).map pceCells).set i [.int .i64 b,.string x.text]),frF w (ownF B (.slice A l.length cap) 2 (l.map pceCells)).blk]⟩ i (ownF B (.slice A l.length cap) 2 (((marks mkP 2 k i ++ l.drop i).map pceCells).set i [.int .i64 b,.string x.text])) (by kernel_rfl) rfl (by kernel_rfl) (by kernel_rfl) rfl (by kernel_rfl) (by kernel_rfl) (by kernel_rfl) (by kernel_rfl) hlt (by simp) (fun ww h => Own.sl h) (by rw [List.length_set,mark_ln hi]; exact hlt) ?_
 intro b5 o6 hA7
 refine kOF 0 [0,1,5,22,23] ⟨[(0,.v (.slice A l.length cap)),(1,.v (.int .i64 (b + 1))),(5,.v (.int .i64 (i : Int))),(22,.v (.string (markText (b + 1)))),(23,.v (.pointer (some ⟨b5,o6 + i * 2,none⟩)))],[],[],[ownF B (.slice A l.length cap) 2 (((marks mkP 2 k i ++ l.drop i).map pceCells).set i [.int .i64 b,.string x.text]),frF w (ownF B (.slice A l.length cap) 2 (l.map pceCells)).blk]⟩ (.pointer (some ⟨b5,o6 + i * 2 + 1,none⟩)) rfl (fun _ _ _ ww hr => fld_run (sz := 1) hr rfl Try.underlying81 rfl (by kernel_rfl) rfl rfl (by first | rfl | omega)) ?_
 refine xl_stE (K := 2) (po := 1) (B := B) (rs := ((marks mkP 2 k i ++ l.drop i).map pceCells)) (row' := [.int .i64 b,.string (markText (b + 1))]) 0 [0,1,5,22,24] ⟨[(0,.v (.slice A l.length cap)),(1,.v (.int .i64 (b + 1))),(5,.v (.int .i64 (i : Int))),(22,.v (.string (markText (b + 1)))),(24,.v (.pointer (some ⟨b5,o6 + i * 2 + 1,none⟩)))],[],[],[ownF B (.slice A l.length cap) 2 (((marks mkP 2 k i ++ l.drop i).map pceCells).set i [.int .i64 b,.string x.text]),frF w (ownF B (.slice A l.length cap) 2 (l.map pceCells)).blk]⟩ i [.int .i64 b,.string x.text] 0 (by kernel_rfl) rfl (by kernel_rfl) rfl rfl rfl rfl (by kernel_rfl) (by kernel_rfl) rfl (cutW_le w B) hA7 (by rw [mark_ln hi]; exact hlt) (fun r hr => by obtain ⟨y,_,rfl⟩ := List.mem_map.1 hr; rfl) (by kernel_rfl) (by kernel_rfl) rfl rfl ?_
 refine kEF [0,1,5] ⟨[(0,.v (.slice A l.length cap)),(1,.v (.int .i64 (b + 1))),(5,.v (.int .i64 (i : Int)))],[],[],[ownF B (.slice A l.length cap) 2 (((marks mkP 2 k i ++ l.drop i).map pceCells).set i [.int .i64 b,.string (markText (b + 1))]),frF w (ownF B (.slice A l.length cap) 2 (l.map pceCells)).blk]⟩ ?_
 refine kG ?_
 refine kRS 3 [0,1,5] [(0,.v (.slice A l.length cap)),(1,.v (.int .i64 (IntKind.i64.wrap (b + 1 + 1)))),(5,.v (.int .i64 (i : Int)))] ?_
 refine xl_eqS (t' := [(0,.v (.slice A l.length cap)),(1,.v (.int .i64 (b + 2))),(5,.v (.int .i64 (i : Int)))]) (by rw [show (IntKind.i64.wrap (b + 1 + 1)) = (b + 2) from wrap_to (by omega) (by omega) (by omega)]) ?_
 refine kES [0,1,5] [(0,.v (.slice A l.length cap)),(1,.v (.int .i64 (b + 2))),(5,.v (.int .i64 (i : Int)))] ?_
 refine kG ?_
 refine kRS 3 [0,1,5] [(0,.v (.slice A l.length cap)),(1,.v (.int .i64 (b + 2))),(5,.v (.int .i64 (IntKind.i64.wrap ((i : Int) + 1))))] ?_
 refine xl_eqS (t' := [(0,.v (.slice A l.length cap)),(1,.v (.int .i64 (b + 2))),(5,.v (.int .i64 ((i : Int) + 1)))]) (by rw [show (IntKind.i64.wrap ((i : Int) + 1)) = ((i : Int) + 1) from wrap_id (by omega) (by omega)]) ?_
 refine kES [0,1,5] [(0,.v (.slice A l.length cap)),(1,.v (.int .i64 (b + 2))),(5,.v (.int .i64 ((i : Int) + 1)))] ?_
 have e : b + 2 = k + 2 * ((i + 1 : Nat) : Int) := by omega
 rw [e]
 subst hb
 exact ⟨⟨(i + 1),hlt⟩,(wk_fact0 (congrArg (fun z => ownF B (.slice A l.length cap) 2 z) (mark_next (f := pceCells) (mk := mkP) (c := 2) (k := k) hlt))).trans <| kF 0 0 [0,1,5],by show (fun (i : Nat) => l.length - i) (i + 1) < l.length - i; (dsimp only; omega)⟩
 have h1p := of_decide_eq_false h1
 have hge : i = l.length := by simp at h1; omega
 refine xw_exit ?_
 refine kQ ?_
 refine kES [4] [(4,.v (.int .i64 (k + 2 * (i : Int))))] ?_
 refine kR ?_
 subst hge
 exact ⟨[.int .i64 (k + 2 * (l.length : Int))],by kernel_rfl,fun w' hb hf => ⟨ret_int (by simp),by have := hf (ownF B (.slice A l.length cap) 2 ((marks mkP 2 k l.length ++ l.drop l.length).map pceCells)) (by simp); rw [List.drop_length,List.append_nil] at this; exact this,frF_chgd (hf (frF w (ownF B (.slice A l.length cap) 2 (l.map pceCells)).blk) (by simp)) hb rfl rfl rfl⟩⟩
theorem ymarkReceiver_c (x : Rcv) (x_heldV : Value) (k : Int) (w : World) (B : Nat) (hB : B ≤ w.heap.size) (h : Own w B x_heldV 2 (x.held.map pceCells)) (hk0 : 0 ≤ k) (hk : k ≤ 4503599627370496) (hl : x.held.length ≤ 1048576) : Calls Try.prog 11 #[.agg #[.int .i64 x.next, .string x.data, x_heldV, .int .i64 x.fin, .bool x.done], .int .i64 k] w fun e w' => e = .returned (.int .i64 (k + 2 * (x.held.length : Int))) ∧ Own w' B x_heldV 2 ((marks mkP 2 k x.held.length).map pceCells) ∧ Chgd (ownF B x_heldV 2 (x.held.map pceCells)).blk w w' := by
 obtain ⟨A,cap,hv⟩ := h.form
 rw [List.length_map] at hv; subst hv
 refine x_callsM (args := [.agg (rcvL x (.slice A x.held.length cap)).toArray,.int .i64 k]) (fn := Try.f11) [ownF B (.slice A x.held.length cap) 2 (x.held.map pceCells),frF w (ownF B (.slice A x.held.length cap) 2 (x.held.map pceCells)).blk] B Try.func11 rfl Try.ntmps11 rfl hB (by simp only [List.mem_cons,List.not_mem_nil,or_false,forall_eq_or_imp,forall_eq]; exact ⟨h,frF_start w _⟩) apart_fr ?_
 refine kQ ?_
 refine kEF [1,2] ⟨[(1,.v (.int .i64 k)),(2,.p 0 0)],[⟨28,rcvL x (.slice A x.held.length cap)⟩],[],[ownF B (.slice A x.held.length cap) 2 (x.held.map pceCells),frF w (ownF B (.slice A x.held.length cap) 2 (x.held.map pceCells)).blk]⟩ ?_
 refine kQ ?_
 refine kWS 3 [1,6,7] [(1,.v (.int .i64 k)),(6,.v (.slice A x.held.length cap)),(7,.v (.int .i64 k))] 46 [.slice A x.held.length cap,.int .i64 k] (some 8) 0 rfl rfl (fun ww b h hb => Nat.le_trans (cutW_le w B) (vblk_lo h hb)) (xcm_own marks_ne fun ww hw hf => ymarkPieceS_c (.slice A x.held.length cap) x.held k ww B (Nat.le_trans (by first | exact Nat.le_refl _ | exact Nat.le_of_eq (cutW_size hB).symm) hw) (hf (ownF B (.slice A x.held.length cap) 2 (x.held.map pceCells)) (by simp)) (by omega) (by omega) (by omega)) ?_
 intro _
 refine kES [1] [(1,.v (.int .i64 (k + 2 * (x.held.length : Int))))] ?_
 refine kQ ?_
 refine kES [4] [(4,.v (.int .i64 (k + 2 * (x.held.length : Int))))] ?_
 refine kR ?_
 exact ⟨[.int .i64 (k + 2 * (x.held.length : Int))],by kernel_rfl,fun w' hb hf => ⟨rfl,hf (ownF B (.slice A x.held.length cap) 2 ((marks mkP 2 k x.held.length).map pceCells)) (by simp),frF_chgd (hf (frF w (ownF B (.slice A x.held.length cap) 2 (x.held.map pceCells)).blk) (by simp)) hb rfl rfl rfl⟩⟩
theorem yheldPieceS_c (a : List Pce) (aV : Value) (k : Int) (w : World) (hl_aV : Sl w aV 2 (a.map pceCells)) (ha : a = marks mkP 2 k a.length) (hk0 : 0 ≤ k) (hk : k ≤ 4503599627370496) (hl : a.length ≤ 1048576) : Calls Try.prog 47 #[aV, .int .i64 k] w fun e w' => e = .returned (.int .i64 (k + 2 * (a.length : Int))) ∧ Below w.heap.size w w' := by
 obtain ⟨Aa,Ca,hva⟩ := hl_aV.form
 rw [List.length_map] at hva; subst hva
 have hna := hl_aV.len; rw [List.length_map] at hna
 have hqa := Sl.capLe hl_aV
 refine x_calls (args := [.slice Aa a.length Ca,.int .i64 k]) (fn := Try.f47) [slF (.slice Aa a.length Ca) 2 (a.map pceCells)] Try.func47 rfl Try.ntmps47 rfl (by simp only [List.mem_cons,List.not_mem_nil,or_false,forall_eq_or_imp,forall_eq]; exact ⟨rfl,hl_aV⟩) ?_
 refine kQ ?_
 refine kEF [0,1] ⟨[(0,.v (.slice Aa a.length Ca)),(1,.v (.int .i64 k))],[],[],[slF (.slice Aa a.length Ca) 2 (a.map pceCells)]⟩ ?_
 refine kS ?_
 refine kQ ?_
 refine kES [0,1,5] [(0,.v (.slice Aa a.length Ca)),(1,.v (.int .i64 k)),(5,.v (.int .i64 0))] ?_
 refine xw_block ?_
 have e0 : k + 2 * ((0 : Nat) : Int) = k := by omega
 refine xw_eq (st' := ⟨[(0,.v (.slice Aa a.length Ca)),(1,.v (.int .i64 (k + 2 * ((0 : Nat) : Int)))),(5,.v (.int .i64 0))],[],[],[slF (.slice Aa a.length Ca) 2 (a.map pceCells)]⟩) (by rw [e0]) ?_
 refine xw_loopW (α := {x : Nat // (fun (i : Nat) => i ≤ a.length) x}) (fun x => (fun (i : Nat) => (⟨[(0,.v (.slice Aa a.length Ca)),(1,.v (.int .i64 (k + 2 * (i : Int)))),(5,.v (.int .i64 (i : Int)))],[],[],[slF (.slice Aa a.length Ca) 2 (a.map pceCells)]⟩ : St)) x.1) (fun x => (fun (i : Nat) => a.length - i) x.1) ⟨(0),Nat.zero_le _⟩ (kF 0 0 [0,1,5]) ?_
 rintro ⟨i,hi⟩
 try dsimp only
 try dsimp only at hi
 refine kS ?_
 refine kQ ?_
 refine kES [0,1,5,9] [(0,.v (.slice Aa a.length Ca)),(1,.v (.int .i64 (k + 2 * (i : Int)))),(5,.v (.int .i64 (i : Int))),(9,.v (.bool (decide ((i : Int) < ((a.length : Nat) : Int)))))] ?_
 refine kC (decide ((i : Int) < ((a.length : Nat) : Int))) (fun h1 => ?_) (fun h1 => ?_)
 have h1p := of_decide_eq_true h1
 have hlt : i < a.length := by simpa using h1
 obtain ⟨x,hx⟩ : ∃ x,a[i]? = some x := ⟨_,List.getElem?_eq_getElem hlt⟩
 have hxe := marks_get (mk := mkP) (c := 2) (k := k) (n := a.length) (show _ = some x by rw [← ha]; exact hx)
 obtain ⟨b,hb⟩ : ∃ b,b = k + 2 * (i : Int) := ⟨_,rfl⟩
 rw [← hb] at hxe ⊢
 refine kK ?_
 refine kS ?_
 refine xw_block ?_
 refine kS ?_
 refine kQ ?_
 refine xl_index (kd := .i64) (T := 26) (e := 81) (K := 2) 2 [0,1,5,12,13] ⟨[(0,.v (.slice Aa a.length Ca)),(1,.v (.int .i64 b)),(5,.v (.int .i64 (i : Int))),(12,.v (.slice Aa a.length Ca)),(13,.v (.int .i64 (i : Int)))],[],[],[slF (.slice Aa a.length Ca) 2 (a.map pceCells)]⟩ i [.int .i64 b,.string (markText (b + 1))] (slF (.slice Aa a.length Ca) 2 (a.map pceCells)) (by kernel_rfl) rfl (by kernel_rfl) rfl rfl (by kernel_rfl) (by kernel_rfl) (by kernel_rfl) (by kernel_rfl) hlt (by simp) (fun w h => h) (fun b h => h) (by simp only [List.getElem?_map,hx,hxe]; rfl) ?_
 refine kES [0,1,5,18] [(0,.v (.slice Aa a.length Ca)),(1,.v (.int .i64 b)),(5,.v (.int .i64 (i : Int))),(18,.v (.bool (b != b)))] ?_
 refine kC (b != b) (fun h2 => ?_) (fun h2 => ?_)
 simp at h2
 have h2p := neF h2
 refine kK ?_
 refine kQ ?_
 refine kRS 3 [0,1,5] [(0,.v (.slice Aa a.length Ca)),(1,.v (.int .i64 (IntKind.i64.wrap (b + 1)))),(5,.v (.int .i64 (i : Int)))] ?_
 refine xl_eqS (t' := [(0,.v (.slice Aa a.length Ca)),(1,.v (.int .i64 (b + 1))),(5,.v (.int .i64 (i : Int)))]) (by rw [show (IntKind.i64.wrap (b + 1)) = (b + 1) from wrap_id (by omega) (by omega)]) ?_
 refine kES [0,1,5] [(0,.v (.slice Aa a.length Ca)),(1,.v (.int .i64 (b + 1))),(5,.v (.int .i64 (i : Int)))] ?_
 refine kS ?_
 refine kS ?_
 refine xws_start ?_
 refine xws_row (K := 2) (j := i) [.int .i64 b,.string (markText (b + 1))] (slF (.slice Aa a.length Ca) 2 (a.map pceCells)) (fun _ _ h => h) (by simp) (fun w h => h) (fun b h => h) (by simp only [List.getElem?_map,hx,hxe]; rfl) (fun bq3 offq3 hAq3 => ?_)
 refine xws_regionE [] (by kernel_rfl) (fun ρ σ hq4 => ?_)
 refine kTS [0,1,5] [26,22,21,0,1,5] 5 [(26,.v (.int .i64 (b + 1))),(22,.v (.int .i64 (i : Int))),(21,.v (.slice Aa a.length Ca)),(0,.v (.slice Aa a.length Ca)),(1,.v (.int .i64 (b + 1))),(5,.v (.int .i64 (i : Int)))] ?_
 refine xe_takeI (kd := .i64) (T := 26) (e := 81) (K := 2) (j := i) (A := Aa) (len := a.length) (cap := Ca) 2 1 _ rfl (by kernel_rfl) (by kernel_rfl) (by kernel_rfl) (fun _ _ h => h) (by kernel_rfl) rfl rfl (by kernel_rfl) (by kernel_rfl) (by kernel_rfl) (by kernel_rfl) hlt hAq3 hq4.2 (by kernel_rfl) rfl ?_
 refine kTS [3,4] [25,26,0,1,5] 2 [(25,.v (.string (markText (b + 1)))),(26,.v (.int .i64 (b + 1))),(0,.v (.slice Aa a.length Ca)),(1,.v (.int .i64 (b + 1))),(5,.v (.int .i64 (i : Int)))] ?_
 refine kA [6] ?_
 refine kSC 6 84 [.int .i64 (b + 1)] (some 27) rfl (xc_b fun ww hf => ymarkText_c (b + 1) ww  (by omega)) ?_
 intro _
 refine kTS [7] [28,0,1,5] 0 [(28,.v (.bool (!((markText (b + 1)).toList == (markText (b + 1)).toList)))),(0,.v (.slice Aa a.length Ca)),(1,.v (.int .i64 (b + 1))),(5,.v (.int .i64 (i : Int)))] ?_
 refine kZ ?_
 refine kC (!((markText (b + 1)).toList == (markText (b + 1)).toList)) (fun h5 => ?_) (fun h5 => ?_)
 have h5n := not_t h5
 simp at h5n
 have h5n := not_f h5
 have h5np := h5n; simp only [beq_iff_eq,bne_iff_ne,beq_eq_false_iff_ne,bne_eq_false_iff_eq,ne_eq,toList_lit0] at h5np
 refine kK ?_
 refine kG ?_
 refine kRS 3 [0,1,5] [(0,.v (.slice Aa a.length Ca)),(1,.v (.int .i64 (IntKind.i64.wrap (b + 1 + 1)))),(5,.v (.int .i64 (i : Int)))] ?_
 refine xl_eqS (t' := [(0,.v (.slice Aa a.length Ca)),(1,.v (.int .i64 (b + 2))),(5,.v (.int .i64 (i : Int)))]) (by rw [show (IntKind.i64.wrap (b + 1 + 1)) = (b + 2) from wrap_to (by omega) (by omega) (by omega)]) ?_
 refine kES [0,1,5] [(0,.v (.slice Aa a.length Ca)),(1,.v (.int .i64 (b + 2))),(5,.v (.int .i64 (i : Int)))] ?_
 refine kG ?_
 refine kRS 3 [0,1,5] [(0,.v (.slice Aa a.length Ca)),(1,.v (.int .i64 (b + 2))),(5,.v (.int .i64 (IntKind.i64.wrap ((i : Int) + 1))))] ?_
 refine xl_eqS (t' := [(0,.v (.slice Aa a.length Ca)),(1,.v (.int .i64 (b + 2))),(5,.v (.int .i64 ((i : Int) + 1)))]) (by rw [show (IntKind.i64.wrap ((i : Int) + 1)) = ((i : Int) + 1) from wrap_id (by omega) (by omega)]) ?_
 refine kES [0,1,5] [(0,.v (.slice Aa a.length Ca)),(1,.v (.int .i64 (b + 2))),(5,.v (.int .i64 ((i : Int) + 1)))] ?_
 have e : b + 2 = k + 2 * ((i + 1 : Nat) : Int) := by omega
 rw [e]
 exact ⟨⟨(i + 1),hlt⟩,kF 0 0 [0,1,5],by show (fun (i : Nat) => a.length - i) (i + 1) < a.length - i; (dsimp only; omega)⟩
 have h1p := of_decide_eq_false h1
 have hge : i = a.length := by simp at h1; omega
 refine xw_exit ?_
 refine kQ ?_
 refine kES [4] [(4,.v (.int .i64 (k + 2 * (i : Int))))] ?_
 refine kR ?_
 have hmod : k + 2 * (a.length : Int) = (k + 2 * (i : Int)) := by first | rfl | (rw [hge])
 exact ⟨[.int .i64 (k + 2 * (i : Int))],by kernel_rfl,fun w' hb hf => by rw [hmod]; exact ⟨rfl,hb⟩⟩
theorem yheldPieceS_m (n : Nat) (v : Value) (k : Int) (w : World) (hs : Sl w v 2 ((marks mkP 2 k n).map pceCells)) (hk0 : 0 ≤ k) (hk : k ≤ 4503599627370496) (hl : n ≤ 1048576) : Calls Try.prog 47 #[v, .int .i64 k] w fun e w' => e = .returned (.int .i64 (k + 2 * (n : Int))) ∧ Below w.heap.size w w' := by
 have := yheldPieceS_c (marks mkP 2 k n) v k w hs (by rw [marks_len]) hk0 hk (by rw [marks_len]; exact hl)
 rw [marks_len] at this; exact this
theorem yheldReceiver_m (n : Nat) (x_next : Int) (x_data : ByteArray) (x_fin : Int) (x_done : Bool) (v : Value) (k : Int) (w : World) (hs : Sl w v 2 ((marks mkP 2 k n).map pceCells)) (hk0 : 0 ≤ k) (hk : k ≤ 4503599627370496) (hl : n ≤ 1048576) : Calls Try.prog 12 #[.agg #[.int .i64 x_next, .string x_data, v, .int .i64 x_fin, .bool x_done], .int .i64 k] w fun e w' => e = .returned (.int .i64 (k + 2 * (n : Int))) ∧ Below w.heap.size w w' := by
 obtain ⟨A,cap,hv⟩ := hs.form
 rw [List.length_map,marks_len] at hv; subst hv
 refine x_calls (args := [.agg #[.int .i64 x_next,.string x_data,.slice A n cap,.int .i64 x_fin,.bool x_done],.int .i64 k]) (fn := Try.f12) [slF (.slice A n cap) 2 ((marks mkP 2 k n).map pceCells)] Try.func12 rfl Try.ntmps12 rfl (by simp only [List.mem_cons,List.not_mem_nil,or_false,forall_eq_or_imp,forall_eq]; exact ⟨rfl,hs⟩) ?_
 refine kQ ?_
 refine kEF [1,2] ⟨[(1,.v (.int .i64 k)),(2,.p 0 0)],[⟨28,[.int .i64 x_next,.string x_data,.slice A n cap,.int .i64 x_fin,.bool x_done]⟩],[],[slF (.slice A n cap) 2 ((marks mkP 2 k n).map pceCells)]⟩ ?_
 refine kQ ?_
 refine kCS 3 [1,6,7] [(1,.v (.int .i64 k)),(6,.v (.slice A n cap)),(7,.v (.int .i64 k))] 47 [.slice A n cap,.int .i64 k] (some 8) rfl (xc_b fun ww hf => yheldPieceS_m n  (.slice A n cap) k ww (hf _ m0) (by omega) (by omega) (by omega)) ?_
 intro _
 refine kES [1] [(1,.v (.int .i64 (k + 2 * (n : Int))))] ?_
 refine kS ?_
 refine kQ ?_
 refine kES [1,10] [(1,.v (.int .i64 (k + 2 * (n : Int)))),(10,.v (.bool (decide ((k + 2 * (n : Int)) < 0))))] ?_
 refine kC (decide ((k + 2 * (n : Int)) < 0)) (fun h1 => ?_) (fun h1 => ?_)
 have h1p := of_decide_eq_true h1
 exfalso; have := of_decide_eq_true h1; omega
 have h1p := of_decide_eq_false h1
 refine kK ?_
 refine kQ ?_
 refine kES [4] [(4,.v (.int .i64 (k + 2 * (n : Int))))] ?_
 refine kR ?_
 exact ⟨[.int .i64 (k + 2 * (n : Int))],by kernel_rfl,fun w' hb hf => ⟨rfl,hb⟩⟩
end Go.Proofs.Ytebgmdiejgcoiaa
