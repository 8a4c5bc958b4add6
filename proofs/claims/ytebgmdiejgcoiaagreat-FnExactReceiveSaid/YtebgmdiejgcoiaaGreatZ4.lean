/- Contracts that this law needs, part 4. -/
import Derived.Test.YtebgmdiejgcoiaaGreatZ3
namespace Go.Proofs.YtebgmdiejgcoiaaGreat
open Go.RowKit
set_option linter.unusedVariables false
set_option linter.unusedSimpArgs false
set_option maxRecDepth 100000
set_option maxHeartbeats 2000000

theorem yiArrived_c (r : Rcv) (r_heldV : Value) (seq : Int) (text : ByteArray) (fin : Bool) (w : World) (hl_r_heldV : Sl w r_heldV 2 (r.held.map pceCells)) (hkn : r.held.length ≤ 1048576) (hm : ∀ p ∈ r.held, p.text.size ≤ 1048576) (hsz : r.data.size ≤ 4611686018427387904) (hts : text.size ≤ 4611686018427387904) (B : Nat) (hB : B ≤ w.heap.size) : Calls Tryz.prog 72 #[.agg (rcvL r r_heldV).toArray, .int .i64 seq, .string text, .bool fin] w fun e w' => XRs w w' e (α := Option Addr × Nat) (fun y => .agg (rcvL (arrived r seq text fin) (.slice y.1 ((arrived r seq text fin).held.length) y.2)).toArray) (fun y => [ownF B (.slice y.1 ((arrived r seq text fin).held.length) y.2) 2 ((arrived r seq text fin).held.map pceCells)]) := by
 obtain ⟨Arh,Crh,hvrh⟩ := hl_r_heldV.form
 rw [List.length_map] at hvrh; subst hvrh
 have hnrh := hl_r_heldV.len; rw [List.length_map] at hnrh
 have hqrh := Sl.capLe hl_r_heldV
 refine x_callsA (args := [.agg (rcvL r (.slice Arh r.held.length Crh)).toArray,.int .i64 seq,.string text,.bool fin]) (fn := Tryz.f72) [slF (.slice Arh r.held.length Crh) 2 (r.held.map pceCells)] Tryz.func72 rfl Tryz.ntmps72 rfl (by simp only [List.mem_cons,List.not_mem_nil,or_false,forall_eq_or_imp,forall_eq]; exact ⟨rfl,hl_r_heldV⟩) ?_
 refine kQ ?_
 refine kEF [1,2,3,4,8] ⟨[(1,.v (.int .i64 seq)),(2,.v (.string text)),(3,.v (.bool fin)),(4,.p 0 0),(8,.p 1 0)],[⟨41,rcvL r (.slice Arh r.held.length Crh)⟩,⟨41,rcvZ⟩],[],[slF (.slice Arh r.held.length Crh) 2 (r.held.map pceCells)]⟩ ?_
 refine kQ ?_
 refine kCD 1 [1,2,3,4,8,24] [(24,.v (.agg (rcvL r (.slice Arh r.held.length Crh)).toArray))] 98 [.agg (rcvL r (.slice Arh r.held.length Crh)).toArray] (some 25) rfl (xc_r fun ww hw hf => ycloneReceiver_c r (.slice Arh r.held.length Crh) ww (hf _ m0) (by assumption) w.heap.size hw) ?_
 rintro ⟨v1a,v1c⟩
 refine kEA [1,2,3,4,8,9] [(9,.p 2 0)] [⟨41,rcvL r (.slice v1a r.held.length v1c)⟩] ?_
 refine kS ?_
 refine kQ ?_
 refine kCD 1 [1,2,3,4,8,9,26] [(26,.v (.agg (rcvL r (.slice Arh r.held.length Crh)).toArray))] 60 [.agg (rcvL r (.slice Arh r.held.length Crh)).toArray] (some 27) rfl (xc_b fun ww hf => yiReceiverOk_c r (.slice Arh r.held.length Crh) ww (hf _ m1) (by assumption) (by omega)) ?_
 intro _
 refine kRD 2 [1,2,3,4,8,9,29] [(29,.v (.bool (!(receiverOk r))))] ?_
 refine kP 29 (!(receiverOk r)) (fun h2 => ?_) (fun h2 => ?_)
 have h2n := not_t h2
 refine kED [1,2,3,4,8,9,32] [(32,.v (.bool true))] ?_
 refine kT ?_
 refine kQ ?_
 refine kEU [8] [(8,.p 1 0)] 1 ⟨41,rcvL r (.slice v1a r.held.length v1c)⟩ ?_
 refine kR ?_
 have hmod : arrived r seq text fin = r := by first | exact arrived_over hrk (by assumption) (by rw [← hall,← hnf,hpc]; omega) | (unfold arrived; rw [if_neg (by grind)]; done) | (unfold arrived; rw [if_pos (by grind),← hall,← hnf,hpc,← hfp]; first | (rw [if_pos (by omega)]; done) | (rw [if_neg (by omega),if_pos (by first | omega | simp_all)]; done) | (rw [if_neg (by omega),if_neg (by first | omega | simp_all)]; done))
 exact ⟨[.agg (rcvL r (.slice v1a r.held.length v1c)).toArray],by kernel_rfl,fun w' hb hf ha => by rw [hmod]; exact xo1 ((v1a,v1c)) rfl rfl (pO (hf _ m0) hB) hb⟩
 have h2n := not_f h2
 have hrk := h2n
 obtain ⟨hf0,hf1,hf2,hf3,hf4,hheld⟩ := rok_facts h2n
 have hwb := windowOf_bd r
 have hN := slotsOf_len r
 obtain ⟨W,hW⟩ : ∃ W : Nat,windowOf r = (W : Int) := ⟨(windowOf r).toNat,by omega⟩
 have hW2 : W ≤ 32 := by omega
 have hM : (if r.fin = -1 then windowOf r else r.fin) ≤ (W : Int) := by split <;> omega
 refine kED [1,2,3,4,8,9,32] [(32,.v (.bool r.done))] ?_
 refine kC (r.done) (fun h3 => ?_) (fun h3 => ?_)
 refine kQ ?_
 refine kEU [8] [(8,.p 1 0)] 1 ⟨41,rcvL r (.slice v1a r.held.length v1c)⟩ ?_
 refine kR ?_
 have hmod : arrived r seq text fin = r := by first | exact arrived_over hrk (by assumption) (by rw [← hall,← hnf,hpc]; omega) | (unfold arrived; rw [if_neg (by grind)]; done) | (unfold arrived; rw [if_pos (by grind),← hall,← hnf,hpc,← hfp]; first | (rw [if_pos (by omega)]; done) | (rw [if_neg (by omega),if_pos (by first | omega | simp_all)]; done) | (rw [if_neg (by omega),if_neg (by first | omega | simp_all)]; done))
 exact ⟨[.agg (rcvL r (.slice v1a r.held.length v1c)).toArray],by kernel_rfl,fun w' hb hf ha => by rw [hmod]; exact xo1 ((v1a,v1c)) rfl rfl (pO (hf _ m0) hB) hb⟩
 refine kK ?_
 refine kQ ?_
 refine kCD 1 [1,2,3,4,8,9,34] [(34,.v (.agg (rcvL r (.slice Arh r.held.length Crh)).toArray))] 95 [.agg (rcvL r (.slice Arh r.held.length Crh)).toArray] (some 35) rfl (xc_b fun ww hf => iWindowOf_c r.next r.data r.held (.slice Arh r.held.length Crh) r.fin r.done ww (by omega)) ?_
 intro _
 refine kRS 1 [1,2,3,4,8,9,10] [(1,.v (.int .i64 seq)),(2,.v (.string text)),(3,.v (.bool fin)),(4,.p 0 0),(8,.p 1 0),(9,.p 2 0),(10,.v (.int .i64 (windowOf r)))] ?_
 refine xl_eqS (t' := [(1,.v (.int .i64 seq)),(2,.v (.string text)),(3,.v (.bool fin)),(4,.p 0 0),(8,.p 1 0),(9,.p 2 0),(10,.v (.int .i64 (W : Int)))]) (by rw [show (windowOf r) = (W : Int) from hW]) ?_
 refine kED [1,2,3,4,8,9,10] [] ?_
 refine kQ ?_
 refine kHD 1 [1,2,3,4,8,9,10,36] [(36,.v (.int .i64 (W : Int)))] rfl (hv_make (kl := .i64) (kc := .i64) (e := 5) (K := 1) (bytes := 1) (m := W) (z := .int .u8 0) (rs := (List.replicate W 0).map byteRow) rfl (by kernel_rfl) (by kernel_rfl) (by kernel_rfl) (by kernel_rfl) (by (try simp only [List.length_map,List.length_append,List.length_cons,List.length_nil,List.length_take,List.length_drop,maxLen]); omega) (by (try simp only [List.length_map,List.length_append,List.length_cons,List.length_nil,List.length_take,List.length_drop,maxLen]); omega) (by rw [List.map_replicate]; rfl)) ?_
 intro g4
 refine kEA [1,2,3,4,8,9,10,11] [(11,.p 3 0)] [⟨57,[.slice (some ⟨g4,0,none⟩) W W]⟩] ?_
 refine kQ ?_
 refine kHD 1 [1,2,3,4,8,9,10,11,38] [(38,.v (.int .i64 (W : Int)))] rfl (hv_make (kl := .i64) (kc := .i64) (e := 4) (K := 1) (bytes := 1) (m := W) (z := .bool false) (rs := (List.replicate W false).map boolRow) rfl (by kernel_rfl) (by kernel_rfl) (by kernel_rfl) (by kernel_rfl) (by (try simp only [List.length_map,List.length_append,List.length_cons,List.length_nil,List.length_take,List.length_drop,maxLen]); omega) (by (try simp only [List.length_map,List.length_append,List.length_cons,List.length_nil,List.length_take,List.length_drop,maxLen]); omega) (by rw [List.map_replicate]; rfl)) ?_
 intro g5
 refine kEA [1,2,3,4,8,9,10,11,12] [(12,.p 4 0)] [⟨122,[.slice (some ⟨g5,0,none⟩) W W]⟩] ?_
 refine kS ?_
 refine xw_pinB 12 122 [.slice (some ⟨g5,0,none⟩) W W] [⟨41,rcvL r (.slice Arh r.held.length Crh)⟩,⟨41,rcvZ⟩,⟨41,rcvL r (.slice v1a r.held.length v1c)⟩,⟨57,[.slice (some ⟨g4,0,none⟩) W W]⟩] rfl (by kernel_rfl) (by kernel_rfl) ?_
 intro gh hgh hghn
 refine xw_pinB 11 57 [.slice (some ⟨g4,0,none⟩) W W] [⟨41,rcvL r (.slice Arh r.held.length Crh)⟩,⟨41,rcvZ⟩,⟨41,rcvL r (.slice v1a r.held.length v1c)⟩] rfl (by kernel_rfl) (by kernel_rfl) ?_
 intro gd hgd hgdn
 refine xw_wk (wk_pick [1,0,2,3,4,5] [cellF w.heap.size gh 122 [.slice (some ⟨g5,0,none⟩) W W],cellF w.heap.size gd 57 [.slice (some ⟨g4,0,none⟩) W W],rowF w.heap.size 4 1 (.slice (some ⟨g5,0,none⟩) W W) ((List.replicate W false).map boolRow),rowF w.heap.size 5 1 (.slice (some ⟨g4,0,none⟩) W W) ((List.replicate W 0).map byteRow),ownF w.heap.size (.slice v1a r.held.length v1c) 2 (r.held.map pceCells),slF (.slice Arh r.held.length Crh) 2 (r.held.map pceCells)] (by kernel_rfl) (by kernel_rfl)) ?_
 refine xw_turnF (fs' := [arrF w.heap.size gh gd g5 g4 122 57 4 5 W (List.replicate 33 (-1)),ownF w.heap.size (.slice v1a r.held.length v1c) 2 (r.held.map pceCells),slF (.slice Arh r.held.length Crh) 2 (r.held.map pceCells)]) (fun ρ σ w' h => by rw [arrF,hvOf_start (by omega),dtOf_start (by omega)]; exact all_in (hs := [ownF w.heap.size (.slice v1a r.held.length v1c) 2 (r.held.map pceCells),slF (.slice Arh r.held.length Crh) 2 (r.held.map pceCells)]) (own4 rfl rfl rfl rfl) ρ σ w' h) ?_
 refine kG ?_
 refine kOF 0 [1,2,3,4,8,9,10,11,12] ⟨[(1,.v (.int .i64 seq)),(2,.v (.string text)),(3,.v (.bool fin)),(4,.p 0 0),(8,.p 1 0),(9,.p 2 0),(10,.v (.int .i64 (W : Int))),(11,.v (.pointer (some ⟨gd,0,none⟩))),(12,.v (.pointer (some ⟨gh,0,none⟩)))],[⟨41,rcvL r (.slice Arh r.held.length Crh)⟩,⟨41,rcvZ⟩,⟨41,rcvL r (.slice v1a r.held.length v1c)⟩],[],[arrF w.heap.size gh gd g5 g4 122 57 4 5 W (List.replicate 33 (-1)),ownF w.heap.size (.slice v1a r.held.length v1c) 2 (r.held.map pceCells),slF (.slice Arh r.held.length Crh) 2 (r.held.map pceCells)]⟩ (.func (.func 116) #[] #[.pointer (some ⟨gh,0,none⟩),.pointer (some ⟨gd,0,none⟩)]) rfl (fun _ _ _ ww hr => act_mkf [.pointer (some ⟨gh,0,none⟩),.pointer (some ⟨gd,0,none⟩)] hr.1 rfl (by kernel_rfl) ww) ?_
 refine kED [1,2,3,4,8,9,10,11,12,13] [(13,.v (.func (.func 116) #[] #[.pointer (some ⟨gh,0,none⟩),.pointer (some ⟨gd,0,none⟩)]))] ?_
 refine kS ?_
 refine kQ ?_
 refine kED [1,2,3,4,8,9,10,11,12,13,42,43,44] [(42,.v (.slice Arh r.held.length Crh)),(43,.v (.int .i64 ((r.held.length : Nat) : Int))),(44,.v (.int .i64 0))] ?_
 refine xw_block ?_
 refine xw_loopW (α := {x : Nat × List Int × Int // (fun (i : Nat) (l2 : List Int) (e : Int) => i ≤ r.held.length ∧ l2.length = 33 ∧ slotsOf r = putHeld l2 (r.held.drop i) ∧ heldOk (if r.fin = -1 then windowOf r else r.fin) e (r.held.drop i) = true ∧ 0 ≤ e ∧ e ≤ (W : Int) ∧ (∀ j,e.toNat ≤ j → j < 33 → l2[j]? = some (-1))) x.1 x.2.1 x.2.2}) (fun x => (fun (i : Nat) (l2 : List Int) (e : Int) => (⟨[(1,.v (.int .i64 seq)),(2,.v (.string text)),(3,.v (.bool fin)),(4,.p 0 0),(8,.p 1 0),(9,.p 2 0),(10,.v (.int .i64 (W : Int))),(11,.v (.pointer (some ⟨gd,0,none⟩))),(12,.v (.pointer (some ⟨gh,0,none⟩))),(13,.v (.func (.func 116) #[] #[.pointer (some ⟨gh,0,none⟩),.pointer (some ⟨gd,0,none⟩)])),(42,.v (.slice Arh r.held.length Crh)),(43,.v (.int .i64 ((r.held.length : Nat) : Int))),(44,.v (.int .i64 (i : Int)))],[⟨41,rcvL r (.slice Arh r.held.length Crh)⟩,⟨41,rcvZ⟩,⟨41,rcvL r (.slice v1a r.held.length v1c)⟩],[],[arrF w.heap.size gh gd g5 g4 122 57 4 5 W l2,ownF w.heap.size (.slice v1a r.held.length v1c) 2 (r.held.map pceCells),slF (.slice Arh r.held.length Crh) 2 (r.held.map pceCells)]⟩ : St)) x.1.1 x.1.2.1 x.1.2.2) (fun x => (fun (i : Nat) (l2 : List Int) (e : Int) => r.held.length - i) x.1.1 x.1.2.1 x.1.2.2) ⟨(0,(List.replicate 33 (-1)),0),⟨Nat.zero_le _,(by simp),rfl,rok_held hrk,Int.le_refl _,(by dsimp only; omega),(fun j h1 h2 => by rw [List.getElem?_replicate,if_pos h2])⟩⟩ ((wk_pick [0,1,2] [arrF w.heap.size gh gd g5 g4 122 57 4 5 W (List.replicate 33 (-1)),ownF w.heap.size (.slice v1a r.held.length v1c) 2 (r.held.map pceCells),slF (.slice Arh r.held.length Crh) 2 (r.held.map pceCells)] (by kernel_rfl) (by kernel_rfl)).trans <| kF 3 0 [1,2,3,4,8,9,10,11,12,13,42,43,44]) ?_
 rintro ⟨⟨i,l2,e⟩,hi,hl2,H2,hk,he0,heW,hfr⟩
 try dsimp only
 try dsimp only at hi hl2 H2 hk he0 heW hfr
 refine kQ ?_
 refine kED [1,2,3,4,8,9,10,11,12,13,42,43,44,45] [(45,.v (.bool (decide ((i : Int) < ((r.held.length : Nat) : Int)))))] ?_
 refine kS ?_
 refine kC (decide ((i : Int) < ((r.held.length : Nat) : Int))) (fun h6 => ?_) (fun h6 => ?_)
 have h6p := of_decide_eq_true h6
 have hlt2 : i < r.held.length := by simpa using h6
 obtain ⟨pp,hx⟩ : ∃ p,r.held[i]? = some p := ⟨_,List.getElem?_eq_getElem hlt2⟩
 have hin := hheld pp (List.mem_of_getElem? hx)
 obtain ⟨hst1,hst2,hst3⟩ := held_step hk hx
 have hpW : pp.off + (pp.text.size : Int) ≤ (W : Int) := Int.le_trans hst2 hM
 refine kK ?_
 refine kS ?_
 refine xw_block ?_
 refine kQ ?_
 refine xl_indexD (kd := .i64) (T := 39) (e := 85) (K := 2) 0 [1,2,3,4,8,9,10,11,12,13,42,43,44] [] i [.int .i64 pp.off,.string pp.text] (slF (.slice Arh r.held.length Crh) 2 (r.held.map pceCells)) (by kernel_rfl) rfl (by kernel_rfl) rfl rfl (by kernel_rfl) (by kernel_rfl) (by kernel_rfl) (by kernel_rfl) hlt2 (by simp) (fun w h => h) (fun b h => h) (by simp only [List.getElem?_map,hx]; rfl) ?_
 refine kEA [1,2,3,4,8,9,10,11,12,13,15,42,43,44] [(15,.p 3 0)] [⟨85,pceL pp⟩] ?_
 refine kQ ?_
 refine kED [1,2,3,4,8,9,10,11,12,13,15,42,43,44,50,51] [(50,.v (.int .i64 (pp.text.size : Int))),(51,.v (.int .i64 0))] ?_
 refine xw_block ?_
 refine xw_wk (wkf (s' := ⟨[(1,.v (.int .i64 seq)),(2,.v (.string text)),(3,.v (.bool fin)),(4,.p 0 0),(8,.p 1 0),(9,.p 2 0),(10,.v (.int .i64 (W : Int))),(11,.v (.pointer (some ⟨gd,0,none⟩))),(12,.v (.pointer (some ⟨gh,0,none⟩))),(13,.v (.func (.func 116) #[] #[.pointer (some ⟨gh,0,none⟩),.pointer (some ⟨gd,0,none⟩)])),(15,.p 3 0),(42,.v (.slice Arh r.held.length Crh)),(43,.v (.int .i64 ((r.held.length : Nat) : Int))),(44,.v (.int .i64 (i : Int))),(50,.v (.int .i64 (pp.text.size : Int))),(51,.v (.int .i64 0))],[⟨41,rcvL r (.slice Arh r.held.length Crh)⟩,⟨41,rcvZ⟩,⟨41,rcvL r (.slice v1a r.held.length v1c)⟩,⟨85,pceL pp⟩],[],[arrF w.heap.size gh gd g5 g4 122 57 4 5 W l2,ownF w.heap.size (.slice v1a r.held.length v1c) 2 (r.held.map pceCells),slF (.slice Arh r.held.length Crh) 2 (r.held.map pceCells)]⟩) 4 0 [1,2,3,4,8,9,10,11,12,13,15,42,43,44,50,51] (by kernel_rfl)) ?_
 refine xw_loopW (α := {x : Nat × List Int // (fun (q : Nat) (l3 : List Int) => q ≤ pp.text.size ∧ l3.length = 33 ∧ l3 = putText l2 pp.off.toNat pp.text q ∧ (∀ j,pp.off.toNat + q ≤ j → j < 33 → l3[j]? = some (-1))) x.1 x.2}) (fun x => (fun (q : Nat) (l3 : List Int) => (⟨[(1,.v (.int .i64 seq)),(2,.v (.string text)),(3,.v (.bool fin)),(4,.p 0 0),(8,.p 1 0),(9,.p 2 0),(10,.v (.int .i64 (W : Int))),(11,.v (.pointer (some ⟨gd,0,none⟩))),(12,.v (.pointer (some ⟨gh,0,none⟩))),(13,.v (.func (.func 116) #[] #[.pointer (some ⟨gh,0,none⟩),.pointer (some ⟨gd,0,none⟩)])),(15,.p 3 0),(42,.v (.slice Arh r.held.length Crh)),(43,.v (.int .i64 ((r.held.length : Nat) : Int))),(44,.v (.int .i64 (i : Int))),(50,.v (.int .i64 (pp.text.size : Int))),(51,.v (.int .i64 (q : Int)))],[⟨41,rcvL r (.slice Arh r.held.length Crh)⟩,⟨41,rcvZ⟩,⟨41,rcvL r (.slice v1a r.held.length v1c)⟩,⟨85,pceL pp⟩],[],[arrF w.heap.size gh gd g5 g4 122 57 4 5 W l3,ownF w.heap.size (.slice v1a r.held.length v1c) 2 (r.held.map pceCells),slF (.slice Arh r.held.length Crh) 2 (r.held.map pceCells)]⟩ : St)) x.1.1 x.1.2) (fun x => (fun (q : Nat) (l3 : List Int) => pp.text.size - q) x.1.1 x.1.2) ⟨(0,l2),⟨Nat.zero_le _,hl2,rfl,(fun j h1 h2 => hfr j (by omega) h2)⟩⟩ ((wk_pick [0,1,2] [arrF w.heap.size gh gd g5 g4 122 57 4 5 W l2,ownF w.heap.size (.slice v1a r.held.length v1c) 2 (r.held.map pceCells),slF (.slice Arh r.held.length Crh) 2 (r.held.map pceCells)] (by kernel_rfl) (by kernel_rfl)).trans <| kF 4 0 [1,2,3,4,8,9,10,11,12,13,15,42,43,44,50,51]) ?_
 rintro ⟨⟨q,l3⟩,hq,hl3,H3,hfr3⟩
 try dsimp only
 try dsimp only at hq hl3 H3 hfr3
 refine kQ ?_
 refine kED [1,2,3,4,8,9,10,11,12,13,15,42,43,44,50,51,52] [(52,.v (.bool (decide ((q : Int) < (pp.text.size : Int)))))] ?_
 refine kS ?_
 refine kC (decide ((q : Int) < (pp.text.size : Int))) (fun h7 => ?_) (fun h7 => ?_)
 have h7p := of_decide_eq_true h7
 have hlt3 : q < pp.text.size := by simpa using h7
 have hbr := byteAt_rng pp.text q
 have hfz := hfr3 (pp.off.toNat + q) (Nat.le_refl _) (by omega)
 refine kK ?_
 refine kS ?_
 refine xw_block ?_
 refine kQ ?_
 refine kED [1,2,3,4,8,9,10,11,12,13,15,16,42,43,44,50,51] [(16,.v (.int .i64 (q : Int)))] ?_
 refine xe_region0 [] (by kernel_rfl) (fun ρ σ => ?_)
 refine kTS [0,1,2,3,4,5,6,7] [61,60,58,54,1,2,3,4,8,9,10,11,12,13,15,42,43,44,50,51] 2 [(61,.v (.int .i64 (q : Int))),(60,.v (.string pp.text)),(58,.v (.int .i64 (IntKind.i64.wrap (pp.off + (q : Int))))),(54,.v (.func (.func 116) #[] #[.pointer (some ⟨gh,0,none⟩),.pointer (some ⟨gd,0,none⟩)])),(1,.v (.int .i64 seq)),(2,.v (.string text)),(3,.v (.bool fin)),(4,.p 0 0),(8,.p 1 0),(9,.p 2 0),(10,.v (.int .i64 (W : Int))),(11,.v (.pointer (some ⟨gd,0,none⟩))),(12,.v (.pointer (some ⟨gh,0,none⟩))),(13,.v (.func (.func 116) #[] #[.pointer (some ⟨gh,0,none⟩),.pointer (some ⟨gd,0,none⟩)])),(15,.p 3 0),(42,.v (.slice Arh r.held.length Crh)),(43,.v (.int .i64 ((r.held.length : Nat) : Int))),(44,.v (.int .i64 (i : Int))),(50,.v (.int .i64 (pp.text.size : Int))),(51,.v (.int .i64 (q : Int)))] ?_
 refine xe_eqS (t := [(61,.v (.int .i64 (q : Int))),(60,.v (.string pp.text)),(58,.v (.int .i64 (IntKind.i64.wrap (pp.off + (q : Int))))),(54,.v (.func (.func 116) #[] #[.pointer (some ⟨gh,0,none⟩),.pointer (some ⟨gd,0,none⟩)])),(1,.v (.int .i64 seq)),(2,.v (.string text)),(3,.v (.bool fin)),(4,.p 0 0),(8,.p 1 0),(9,.p 2 0),(10,.v (.int .i64 (W : Int))),(11,.v (.pointer (some ⟨gd,0,none⟩))),(12,.v (.pointer (some ⟨gh,0,none⟩))),(13,.v (.func (.func 116) #[] #[.pointer (some ⟨gh,0,none⟩),.pointer (some ⟨gd,0,none⟩)])),(15,.p 3 0),(42,.v (.slice Arh r.held.length Crh)),(43,.v (.int .i64 ((r.held.length : Nat) : Int))),(44,.v (.int .i64 (i : Int))),(50,.v (.int .i64 (pp.text.size : Int))),(51,.v (.int .i64 (q : Int)))]) (t' := [(61,.v (.int .i64 (q : Int))),(60,.v (.string pp.text)),(58,.v (.int .i64 ((pp.off.toNat + q : Nat) : Int))),(54,.v (.func (.func 116) #[] #[.pointer (some ⟨gh,0,none⟩),.pointer (some ⟨gd,0,none⟩)])),(1,.v (.int .i64 seq)),(2,.v (.string text)),(3,.v (.bool fin)),(4,.p 0 0),(8,.p 1 0),(9,.p 2 0),(10,.v (.int .i64 (W : Int))),(11,.v (.pointer (some ⟨gd,0,none⟩))),(12,.v (.pointer (some ⟨gh,0,none⟩))),(13,.v (.func (.func 116) #[] #[.pointer (some ⟨gh,0,none⟩),.pointer (some ⟨gd,0,none⟩)])),(15,.p 3 0),(42,.v (.slice Arh r.held.length Crh)),(43,.v (.int .i64 ((r.held.length : Nat) : Int))),(44,.v (.int .i64 (i : Int))),(50,.v (.int .i64 (pp.text.size : Int))),(51,.v (.int .i64 (q : Int)))]) (by rw [show (IntKind.i64.wrap (pp.off + (q : Int))) = ((pp.off.toNat + q : Nat) : Int) from by rw [wrap_id (by omega) (by omega)]; omega]) ?_
 refine kX 8 (.int .u8 (byteAt pp.text q)) rfl (fun _ _ ww hA => act_tix (kd := .i64) (t := pp.text) q hA rfl rfl (by kernel_rfl) (by kernel_rfl) hlt3 ww) ?_
 refine kA [9] ?_
 refine xs_callWC 9 116 [.int .i64 ((pp.off.toNat + q : Nat) : Int),.int .u8 (byteAt pp.text q),.pointer (some ⟨gh,0,none⟩),.pointer (some ⟨gd,0,none⟩)] (some 63) 0 (arrF w.heap.size gh gd g5 g4 122 57 4 5 W l3) rfl (by kernel_rfl) rfl (by kernel_rfl) rfl rfl (fun ww b h hb => arrF_lo h hb) (by kernel_rfl) (under_t (under_t (under_t (under_t under_nil)))) rfl (xcm_arr fun ww hw hf => arrStore_c w.heap.size gh gd g5 g4 W (pp.off.toNat + q) l3 (byteAt pp.text q) ww hw (hf (arrF w.heap.size gh gd g5 g4 122 57 4 5 W l3) (by simp)) (by omega) (by omega) hbr) ?_
 intro _
 refine kZ ?_
 refine kG ?_
 refine kRS 2 [1,2,3,4,8,9,10,11,12,13,15,42,43,44,50,51] [(1,.v (.int .i64 seq)),(2,.v (.string text)),(3,.v (.bool fin)),(4,.p 0 0),(8,.p 1 0),(9,.p 2 0),(10,.v (.int .i64 (W : Int))),(11,.v (.pointer (some ⟨gd,0,none⟩))),(12,.v (.pointer (some ⟨gh,0,none⟩))),(13,.v (.func (.func 116) #[] #[.pointer (some ⟨gh,0,none⟩),.pointer (some ⟨gd,0,none⟩)])),(15,.p 3 0),(42,.v (.slice Arh r.held.length Crh)),(43,.v (.int .i64 ((r.held.length : Nat) : Int))),(44,.v (.int .i64 (i : Int))),(50,.v (.int .i64 (pp.text.size : Int))),(51,.v (.int .i64 (IntKind.i64.wrap ((q : Int) + 1))))] ?_
 refine xl_eqS (t' := [(1,.v (.int .i64 seq)),(2,.v (.string text)),(3,.v (.bool fin)),(4,.p 0 0),(8,.p 1 0),(9,.p 2 0),(10,.v (.int .i64 (W : Int))),(11,.v (.pointer (some ⟨gd,0,none⟩))),(12,.v (.pointer (some ⟨gh,0,none⟩))),(13,.v (.func (.func 116) #[] #[.pointer (some ⟨gh,0,none⟩),.pointer (some ⟨gd,0,none⟩)])),(15,.p 3 0),(42,.v (.slice Arh r.held.length Crh)),(43,.v (.int .i64 ((r.held.length : Nat) : Int))),(44,.v (.int .i64 (i : Int))),(50,.v (.int .i64 (pp.text.size : Int))),(51,.v (.int .i64 ((q : Int) + 1)))]) (by rw [show (IntKind.i64.wrap ((q : Int) + 1)) = ((q : Int) + 1) from wrap_id (by omega) (by omega)]) ?_
 refine kED [1,2,3,4,8,9,10,11,12,13,15,42,43,44,50,51] [] ?_
 exact ⟨⟨(q + 1,(stOne l3 (pp.off.toNat + q) (byteAt pp.text q))),⟨hlt3,(by rw [stOne_len]; exact hl3),(by rw [stOne_free hfz (by decide),H3]; rfl),(fun j h1 h2 => by rw [stOne_far (by omega)]; exact hfr3 j (by omega) h2)⟩⟩,kF 4 0 [1,2,3,4,8,9,10,11,12,13,15,42,43,44,50,51],by show (fun (q : Nat) (l3 : List Int) => pp.text.size - q) (q + 1) (stOne l3 (pp.off.toNat + q) (byteAt pp.text q)) < pp.text.size - q; (dsimp only; omega)⟩
 have h7p := of_decide_eq_false h7
 have hq3 : q = pp.text.size := by simp at h7; omega
 refine xw_exit ?_
 refine kG ?_
 refine kRS 2 [1,2,3,4,8,9,10,11,12,13,42,43,44] [(1,.v (.int .i64 seq)),(2,.v (.string text)),(3,.v (.bool fin)),(4,.p 0 0),(8,.p 1 0),(9,.p 2 0),(10,.v (.int .i64 (W : Int))),(11,.v (.pointer (some ⟨gd,0,none⟩))),(12,.v (.pointer (some ⟨gh,0,none⟩))),(13,.v (.func (.func 116) #[] #[.pointer (some ⟨gh,0,none⟩),.pointer (some ⟨gd,0,none⟩)])),(42,.v (.slice Arh r.held.length Crh)),(43,.v (.int .i64 ((r.held.length : Nat) : Int))),(44,.v (.int .i64 (IntKind.i64.wrap ((i : Int) + 1))))] ?_
 refine xl_eqS (t' := [(1,.v (.int .i64 seq)),(2,.v (.string text)),(3,.v (.bool fin)),(4,.p 0 0),(8,.p 1 0),(9,.p 2 0),(10,.v (.int .i64 (W : Int))),(11,.v (.pointer (some ⟨gd,0,none⟩))),(12,.v (.pointer (some ⟨gh,0,none⟩))),(13,.v (.func (.func 116) #[] #[.pointer (some ⟨gh,0,none⟩),.pointer (some ⟨gd,0,none⟩)])),(42,.v (.slice Arh r.held.length Crh)),(43,.v (.int .i64 ((r.held.length : Nat) : Int))),(44,.v (.int .i64 ((i : Int) + 1)))]) (by rw [show (IntKind.i64.wrap ((i : Int) + 1)) = ((i : Int) + 1) from wrap_id (by omega) (by omega)]) ?_
 refine kED [1,2,3,4,8,9,10,11,12,13,42,43,44] [] ?_
 exact ⟨⟨(i + 1,l3,(pp.off + (pp.text.size : Int))),⟨hlt2,hl3,(by rw [H2,drop_cons_of hx,putHeld,← hq3,← H3]),hst3,(by dsimp only; omega),hpW,(fun j h1 h2 => hfr3 j (by dsimp only at h1; omega) h2)⟩⟩,kF 3 0 [1,2,3,4,8,9,10,11,12,13,42,43,44],by show (fun (i : Nat) (l2 : List Int) (e : Int) => r.held.length - i) (i + 1) l3 (pp.off + (pp.text.size : Int)) < r.held.length - i; (dsimp only; omega)⟩
 have h6p := of_decide_eq_false h6
 have hi2 : i = r.held.length := by simp at h6; omega
 rw [hi2,List.drop_length] at H2; simp only [putHeld] at H2
 refine xw_exit ?_
 refine kS ?_
 refine kQ ?_
 refine kED [1,2,3,4,8,9,10,11,12,13,67,68] [(67,.v (.int .i64 (text.size : Int))),(68,.v (.int .i64 0))] ?_
 refine xw_block ?_
 refine xw_loopW (α := {x : Nat × List Int // (fun (i : Nat) (sl : List Int) => i ≤ text.size ∧ sl.length = 33 ∧ sl = textN r seq text (slotsOf r) i ∧ (∀ j,W ≤ j → j < 33 → sl[j]? = some (-1))) x.1 x.2}) (fun x => (fun (i : Nat) (sl : List Int) => (⟨[(1,.v (.int .i64 seq)),(2,.v (.string text)),(3,.v (.bool fin)),(4,.p 0 0),(8,.p 1 0),(9,.p 2 0),(10,.v (.int .i64 (W : Int))),(11,.v (.pointer (some ⟨gd,0,none⟩))),(12,.v (.pointer (some ⟨gh,0,none⟩))),(13,.v (.func (.func 116) #[] #[.pointer (some ⟨gh,0,none⟩),.pointer (some ⟨gd,0,none⟩)])),(67,.v (.int .i64 (text.size : Int))),(68,.v (.int .i64 (i : Int)))],[⟨41,rcvL r (.slice Arh r.held.length Crh)⟩,⟨41,rcvZ⟩,⟨41,rcvL r (.slice v1a r.held.length v1c)⟩],[],[arrF w.heap.size gh gd g5 g4 122 57 4 5 W sl,ownF w.heap.size (.slice v1a r.held.length v1c) 2 (r.held.map pceCells),slF (.slice Arh r.held.length Crh) 2 (r.held.map pceCells)]⟩ : St)) x.1.1 x.1.2) (fun x => (fun (i : Nat) (sl : List Int) => text.size - i) x.1.1 x.1.2) ⟨(0,l2),⟨Nat.zero_le _,hl2,H2.symm,(fun j h1 h2 => hfr j (by omega) h2)⟩⟩ ((wk_pick [0,1,2] [arrF w.heap.size gh gd g5 g4 122 57 4 5 W l2,ownF w.heap.size (.slice v1a r.held.length v1c) 2 (r.held.map pceCells),slF (.slice Arh r.held.length Crh) 2 (r.held.map pceCells)] (by kernel_rfl) (by kernel_rfl)).trans <| kF 3 0 [1,2,3,4,8,9,10,11,12,13,67,68]) ?_
 rintro ⟨⟨i,sl⟩,hi,hl,HS,hbe⟩
 try dsimp only
 try dsimp only at hi hl HS hbe
 refine kQ ?_
 refine kED [1,2,3,4,8,9,10,11,12,13,67,68,69] [(69,.v (.bool (decide ((i : Int) < (text.size : Int)))))] ?_
 refine kS ?_
 refine kC (decide ((i : Int) < (text.size : Int))) (fun h8 => ?_) (fun h8 => ?_)
 have h8p := of_decide_eq_true h8
 have hlti : i < text.size := by simpa using h8
 have hbr := byteAt_rng text i
 have hsq := seqAdd_in seq (i : Int)
 refine kK ?_
 refine kS ?_
 refine xw_block ?_
 refine kQ ?_
 refine kED [1,2,3,4,8,9,10,11,12,13,17,67,68] [(17,.v (.int .i64 (i : Int)))] ?_
 refine kS ?_
 refine xe_region0 [] (by kernel_rfl) (fun ρ σ => ?_)
 refine kTS [0,1,3,4] [75,72,71,1,2,3,4,8,9,10,11,12,13,17,67,68] 3 [(75,.v (.int .i64 r.next)),(72,.v (.int .i64 (i : Int))),(71,.v (.int .i64 seq)),(1,.v (.int .i64 seq)),(2,.v (.string text)),(3,.v (.bool fin)),(4,.p 0 0),(8,.p 1 0),(9,.p 2 0),(10,.v (.int .i64 (W : Int))),(11,.v (.pointer (some ⟨gd,0,none⟩))),(12,.v (.pointer (some ⟨gh,0,none⟩))),(13,.v (.func (.func 116) #[] #[.pointer (some ⟨gh,0,none⟩),.pointer (some ⟨gd,0,none⟩)])),(17,.v (.int .i64 (i : Int))),(67,.v (.int .i64 (text.size : Int))),(68,.v (.int .i64 (i : Int)))] ?_
 refine kA [2] ?_
 refine kSC 2 115 [.int .i64 seq,.int .i64 (i : Int)] (some 73) rfl (xc_s fun ww hf => iSeqAdd_c seq (i : Int) ww ) ?_
 intro _
 refine kA [5] ?_
 refine kSC 5 117 [.int .i64 (seqAdd seq (i : Int)),.int .i64 r.next] (some 76) rfl (xc_s fun ww hf => ahead_c (seqAdd seq (i : Int)) r.next ww ) ?_
 intro _
 refine xe_eqS (t := [(76,.v (.int .i64 (((seqAdd seq (i : Int)) - r.next) % 4294967296))),(73,.v (.int .i64 (seqAdd seq (i : Int)))),(75,.v (.int .i64 r.next)),(72,.v (.int .i64 (i : Int))),(71,.v (.int .i64 seq)),(1,.v (.int .i64 seq)),(2,.v (.string text)),(3,.v (.bool fin)),(4,.p 0 0),(8,.p 1 0),(9,.p 2 0),(10,.v (.int .i64 (W : Int))),(11,.v (.pointer (some ⟨gd,0,none⟩))),(12,.v (.pointer (some ⟨gh,0,none⟩))),(13,.v (.func (.func 116) #[] #[.pointer (some ⟨gh,0,none⟩),.pointer (some ⟨gd,0,none⟩)])),(17,.v (.int .i64 (i : Int))),(67,.v (.int .i64 (text.size : Int))),(68,.v (.int .i64 (i : Int)))]) (t' := [(76,.v (.int .i64 ((offN r seq i : Nat) : Int))),(73,.v (.int .i64 (seqAdd seq (i : Int)))),(75,.v (.int .i64 r.next)),(72,.v (.int .i64 (i : Int))),(71,.v (.int .i64 seq)),(1,.v (.int .i64 seq)),(2,.v (.string text)),(3,.v (.bool fin)),(4,.p 0 0),(8,.p 1 0),(9,.p 2 0),(10,.v (.int .i64 (W : Int))),(11,.v (.pointer (some ⟨gd,0,none⟩))),(12,.v (.pointer (some ⟨gh,0,none⟩))),(13,.v (.func (.func 116) #[] #[.pointer (some ⟨gh,0,none⟩),.pointer (some ⟨gd,0,none⟩)])),(17,.v (.int .i64 (i : Int))),(67,.v (.int .i64 (text.size : Int))),(68,.v (.int .i64 (i : Int)))]) (by rw [show (((seqAdd seq (i : Int)) - r.next) % 4294967296) = ((offN r seq i : Nat) : Int) from offN_eq r seq i]) ?_
 refine kTS [6] [18,1,2,3,4,8,9,10,11,12,13,17,67,68] 0 [(18,.v (.int .i64 ((offN r seq i : Nat) : Int))),(1,.v (.int .i64 seq)),(2,.v (.string text)),(3,.v (.bool fin)),(4,.p 0 0),(8,.p 1 0),(9,.p 2 0),(10,.v (.int .i64 (W : Int))),(11,.v (.pointer (some ⟨gd,0,none⟩))),(12,.v (.pointer (some ⟨gh,0,none⟩))),(13,.v (.func (.func 116) #[] #[.pointer (some ⟨gh,0,none⟩),.pointer (some ⟨gd,0,none⟩)])),(17,.v (.int .i64 (i : Int))),(67,.v (.int .i64 (text.size : Int))),(68,.v (.int .i64 (i : Int)))] ?_
 refine kZ ?_
 refine kQ ?_
 refine kRD 4 [1,2,3,4,8,9,10,11,12,13,17,18,67,68,80] [(80,.v (.bool (decide (((offN r seq i : Nat) : Int) < (W : Int)))))] ?_
 refine kP 80 (decide (((offN r seq i : Nat) : Int) < (W : Int))) (fun h9 => ?_) (fun h9 => ?_)
 have h9p := of_decide_eq_true h9
 refine kRD 4 [1,2,3,4,8,9,10,11,12,13,17,18,67,68,80,84] [(80,.v (.bool true)),(84,.v (.bool (r.fin == (-1))))] ?_
 refine kP 84 (r.fin == (-1)) (fun h10 => ?_) (fun h10 => ?_)
 have h10p := eqT h10
 refine kED [1,2,3,4,8,9,10,11,12,13,17,18,67,68,90] [(90,.v (.bool true))] ?_
 refine kT ?_
 refine kG ?_
 refine kOD 4 [1,2,3,4,8,9,10,11,12,13,67,68,91,92,93,94] [(91,.v (.func (.func 116) #[] #[.pointer (some ⟨gh,0,none⟩),.pointer (some ⟨gd,0,none⟩)])),(92,.v (.int .i64 ((offN r seq i : Nat) : Int))),(93,.v (.string text)),(94,.v (.int .i64 (i : Int)))] (.int .u8 (byteAt text i)) rfl (fun _ _ _ ww hr => act_tix (kd := .i64) (t := text) i hr.1 rfl rfl (by kernel_rfl) (by kernel_rfl) hlti ww) ?_
 refine xl_callWC 0 [1,2,3,4,8,9,10,11,12,13,67,68,91,92,95] ⟨[(1,.v (.int .i64 seq)),(2,.v (.string text)),(3,.v (.bool fin)),(4,.p 0 0),(8,.p 1 0),(9,.p 2 0),(10,.v (.int .i64 (W : Int))),(11,.v (.pointer (some ⟨gd,0,none⟩))),(12,.v (.pointer (some ⟨gh,0,none⟩))),(13,.v (.func (.func 116) #[] #[.pointer (some ⟨gh,0,none⟩),.pointer (some ⟨gd,0,none⟩)])),(67,.v (.int .i64 (text.size : Int))),(68,.v (.int .i64 (i : Int))),(91,.v (.func (.func 116) #[] #[.pointer (some ⟨gh,0,none⟩),.pointer (some ⟨gd,0,none⟩)])),(92,.v (.int .i64 ((offN r seq i : Nat) : Int))),(95,.v (.int .u8 (byteAt text i)))],[⟨41,rcvL r (.slice Arh r.held.length Crh)⟩,⟨41,rcvZ⟩,⟨41,rcvL r (.slice v1a r.held.length v1c)⟩],[],[arrF w.heap.size gh gd g5 g4 122 57 4 5 W sl,ownF w.heap.size (.slice v1a r.held.length v1c) 2 (r.held.map pceCells),slF (.slice Arh r.held.length Crh) 2 (r.held.map pceCells)]⟩ 116 [.int .i64 ((offN r seq i : Nat) : Int),.int .u8 (byteAt text i),.pointer (some ⟨gh,0,none⟩),.pointer (some ⟨gd,0,none⟩)] (some 96) 0 (arrF w.heap.size gh gd g5 g4 122 57 4 5 W sl) (by kernel_rfl) rfl (by kernel_rfl) rfl (by kernel_rfl) rfl rfl (fun ww b h hb => arrF_lo h hb) (by kernel_rfl) (xcm_arr fun ww hw hf => arrStore_c w.heap.size gh gd g5 g4 W (offN r seq i) sl (byteAt text i) ww hw (hf (arrF w.heap.size gh gd g5 g4 122 57 4 5 W sl) (by simp)) (by omega) (by omega) hbr) ?_
 intro _
 refine kED [1,2,3,4,8,9,10,11,12,13,67,68] [] ?_
 refine kG ?_
 refine kRS 2 [1,2,3,4,8,9,10,11,12,13,67,68] [(1,.v (.int .i64 seq)),(2,.v (.string text)),(3,.v (.bool fin)),(4,.p 0 0),(8,.p 1 0),(9,.p 2 0),(10,.v (.int .i64 (W : Int))),(11,.v (.pointer (some ⟨gd,0,none⟩))),(12,.v (.pointer (some ⟨gh,0,none⟩))),(13,.v (.func (.func 116) #[] #[.pointer (some ⟨gh,0,none⟩),.pointer (some ⟨gd,0,none⟩)])),(67,.v (.int .i64 (text.size : Int))),(68,.v (.int .i64 (IntKind.i64.wrap ((i : Int) + 1))))] ?_
 refine xl_eqS (t' := [(1,.v (.int .i64 seq)),(2,.v (.string text)),(3,.v (.bool fin)),(4,.p 0 0),(8,.p 1 0),(9,.p 2 0),(10,.v (.int .i64 (W : Int))),(11,.v (.pointer (some ⟨gd,0,none⟩))),(12,.v (.pointer (some ⟨gh,0,none⟩))),(13,.v (.func (.func 116) #[] #[.pointer (some ⟨gh,0,none⟩),.pointer (some ⟨gd,0,none⟩)])),(67,.v (.int .i64 (text.size : Int))),(68,.v (.int .i64 ((i : Int) + 1)))]) (by rw [show (IntKind.i64.wrap ((i : Int) + 1)) = ((i : Int) + 1) from wrap_id (by omega) (by omega)]) ?_
 refine kED [1,2,3,4,8,9,10,11,12,13,67,68] [] ?_
 exact ⟨⟨(i + 1,(stOne sl (offN r seq i) (byteAt text i))),⟨hlti,(by rw [stOne_len]; exact hl),(by rw [textN,← HS,text_yes (by rw [hW]; omega) (by omega)]),(fun j h1 h2 => by rw [stOne_far (by omega)]; exact hbe j h1 h2)⟩⟩,kF 3 0 [1,2,3,4,8,9,10,11,12,13,67,68],by show (fun (i : Nat) (sl : List Int) => text.size - i) (i + 1) (stOne sl (offN r seq i) (byteAt text i)) < text.size - i; (dsimp only; omega)⟩
 have h10p := eqF h10
 refine kED [1,2,3,4,8,9,10,11,12,13,17,18,67,68,90] [(90,.v (.bool (decide (((offN r seq i : Nat) : Int) < r.fin))))] ?_
 refine kC (decide (((offN r seq i : Nat) : Int) < r.fin)) (fun h11 => ?_) (fun h11 => ?_)
 have h11p := of_decide_eq_true h11
 refine kG ?_
 refine kOD 4 [1,2,3,4,8,9,10,11,12,13,67,68,91,92,93,94] [(91,.v (.func (.func 116) #[] #[.pointer (some ⟨gh,0,none⟩),.pointer (some ⟨gd,0,none⟩)])),(92,.v (.int .i64 ((offN r seq i : Nat) : Int))),(93,.v (.string text)),(94,.v (.int .i64 (i : Int)))] (.int .u8 (byteAt text i)) rfl (fun _ _ _ ww hr => act_tix (kd := .i64) (t := text) i hr.1 rfl rfl (by kernel_rfl) (by kernel_rfl) hlti ww) ?_
 refine xl_callWC 0 [1,2,3,4,8,9,10,11,12,13,67,68,91,92,95] ⟨[(1,.v (.int .i64 seq)),(2,.v (.string text)),(3,.v (.bool fin)),(4,.p 0 0),(8,.p 1 0),(9,.p 2 0),(10,.v (.int .i64 (W : Int))),(11,.v (.pointer (some ⟨gd,0,none⟩))),(12,.v (.pointer (some ⟨gh,0,none⟩))),(13,.v (.func (.func 116) #[] #[.pointer (some ⟨gh,0,none⟩),.pointer (some ⟨gd,0,none⟩)])),(67,.v (.int .i64 (text.size : Int))),(68,.v (.int .i64 (i : Int))),(91,.v (.func (.func 116) #[] #[.pointer (some ⟨gh,0,none⟩),.pointer (some ⟨gd,0,none⟩)])),(92,.v (.int .i64 ((offN r seq i : Nat) : Int))),(95,.v (.int .u8 (byteAt text i)))],[⟨41,rcvL r (.slice Arh r.held.length Crh)⟩,⟨41,rcvZ⟩,⟨41,rcvL r (.slice v1a r.held.length v1c)⟩],[],[arrF w.heap.size gh gd g5 g4 122 57 4 5 W sl,ownF w.heap.size (.slice v1a r.held.length v1c) 2 (r.held.map pceCells),slF (.slice Arh r.held.length Crh) 2 (r.held.map pceCells)]⟩ 116 [.int .i64 ((offN r seq i : Nat) : Int),.int .u8 (byteAt text i),.pointer (some ⟨gh,0,none⟩),.pointer (some ⟨gd,0,none⟩)] (some 96) 0 (arrF w.heap.size gh gd g5 g4 122 57 4 5 W sl) (by kernel_rfl) rfl (by kernel_rfl) rfl (by kernel_rfl) rfl rfl (fun ww b h hb => arrF_lo h hb) (by kernel_rfl) (xcm_arr fun ww hw hf => arrStore_c w.heap.size gh gd g5 g4 W (offN r seq i) sl (byteAt text i) ww hw (hf (arrF w.heap.size gh gd g5 g4 122 57 4 5 W sl) (by simp)) (by omega) (by omega) hbr) ?_
 intro _
 refine kED [1,2,3,4,8,9,10,11,12,13,67,68] [] ?_
 refine kG ?_
 refine kRS 2 [1,2,3,4,8,9,10,11,12,13,67,68] [(1,.v (.int .i64 seq)),(2,.v (.string text)),(3,.v (.bool fin)),(4,.p 0 0),(8,.p 1 0),(9,.p 2 0),(10,.v (.int .i64 (W : Int))),(11,.v (.pointer (some ⟨gd,0,none⟩))),(12,.v (.pointer (some ⟨gh,0,none⟩))),(13,.v (.func (.func 116) #[] #[.pointer (some ⟨gh,0,none⟩),.pointer (some ⟨gd,0,none⟩)])),(67,.v (.int .i64 (text.size : Int))),(68,.v (.int .i64 (IntKind.i64.wrap ((i : Int) + 1))))] ?_
 refine xl_eqS (t' := [(1,.v (.int .i64 seq)),(2,.v (.string text)),(3,.v (.bool fin)),(4,.p 0 0),(8,.p 1 0),(9,.p 2 0),(10,.v (.int .i64 (W : Int))),(11,.v (.pointer (some ⟨gd,0,none⟩))),(12,.v (.pointer (some ⟨gh,0,none⟩))),(13,.v (.func (.func 116) #[] #[.pointer (some ⟨gh,0,none⟩),.pointer (some ⟨gd,0,none⟩)])),(67,.v (.int .i64 (text.size : Int))),(68,.v (.int .i64 ((i : Int) + 1)))]) (by rw [show (IntKind.i64.wrap ((i : Int) + 1)) = ((i : Int) + 1) from wrap_id (by omega) (by omega)]) ?_
 refine kED [1,2,3,4,8,9,10,11,12,13,67,68] [] ?_
 exact ⟨⟨(i + 1,(stOne sl (offN r seq i) (byteAt text i))),⟨hlti,(by rw [stOne_len]; exact hl),(by rw [textN,← HS,text_yes (by rw [hW]; omega) (by omega)]),(fun j h1 h2 => by rw [stOne_far (by omega)]; exact hbe j h1 h2)⟩⟩,kF 3 0 [1,2,3,4,8,9,10,11,12,13,67,68],by show (fun (i : Nat) (sl : List Int) => text.size - i) (i + 1) (stOne sl (offN r seq i) (byteAt text i)) < text.size - i; (dsimp only; omega)⟩
 have h11p := of_decide_eq_false h11
 refine kK ?_
 refine kG ?_
 refine kRS 2 [1,2,3,4,8,9,10,11,12,13,67,68] [(1,.v (.int .i64 seq)),(2,.v (.string text)),(3,.v (.bool fin)),(4,.p 0 0),(8,.p 1 0),(9,.p 2 0),(10,.v (.int .i64 (W : Int))),(11,.v (.pointer (some ⟨gd,0,none⟩))),(12,.v (.pointer (some ⟨gh,0,none⟩))),(13,.v (.func (.func 116) #[] #[.pointer (some ⟨gh,0,none⟩),.pointer (some ⟨gd,0,none⟩)])),(67,.v (.int .i64 (text.size : Int))),(68,.v (.int .i64 (IntKind.i64.wrap ((i : Int) + 1))))] ?_
 refine xl_eqS (t' := [(1,.v (.int .i64 seq)),(2,.v (.string text)),(3,.v (.bool fin)),(4,.p 0 0),(8,.p 1 0),(9,.p 2 0),(10,.v (.int .i64 (W : Int))),(11,.v (.pointer (some ⟨gd,0,none⟩))),(12,.v (.pointer (some ⟨gh,0,none⟩))),(13,.v (.func (.func 116) #[] #[.pointer (some ⟨gh,0,none⟩),.pointer (some ⟨gd,0,none⟩)])),(67,.v (.int .i64 (text.size : Int))),(68,.v (.int .i64 ((i : Int) + 1)))]) (by rw [show (IntKind.i64.wrap ((i : Int) + 1)) = ((i : Int) + 1) from wrap_id (by omega) (by omega)]) ?_
 refine kED [1,2,3,4,8,9,10,11,12,13,67,68] [] ?_
 exact ⟨⟨(i + 1,sl),⟨hlti,hl,(by rw [textN,← HS,text_no (by rw [hW]; omega)]),hbe⟩⟩,kF 3 0 [1,2,3,4,8,9,10,11,12,13,67,68],by show (fun (i : Nat) (sl : List Int) => text.size - i) (i + 1) sl < text.size - i; (dsimp only; omega)⟩
 have h9p := of_decide_eq_false h9
 refine kED [1,2,3,4,8,9,10,11,12,13,17,18,67,68,90] [(90,.v (.bool false))] ?_
 refine kN ?_
 refine kK ?_
 refine kG ?_
 refine kRS 2 [1,2,3,4,8,9,10,11,12,13,67,68] [(1,.v (.int .i64 seq)),(2,.v (.string text)),(3,.v (.bool fin)),(4,.p 0 0),(8,.p 1 0),(9,.p 2 0),(10,.v (.int .i64 (W : Int))),(11,.v (.pointer (some ⟨gd,0,none⟩))),(12,.v (.pointer (some ⟨gh,0,none⟩))),(13,.v (.func (.func 116) #[] #[.pointer (some ⟨gh,0,none⟩),.pointer (some ⟨gd,0,none⟩)])),(67,.v (.int .i64 (text.size : Int))),(68,.v (.int .i64 (IntKind.i64.wrap ((i : Int) + 1))))] ?_
 refine xl_eqS (t' := [(1,.v (.int .i64 seq)),(2,.v (.string text)),(3,.v (.bool fin)),(4,.p 0 0),(8,.p 1 0),(9,.p 2 0),(10,.v (.int .i64 (W : Int))),(11,.v (.pointer (some ⟨gd,0,none⟩))),(12,.v (.pointer (some ⟨gh,0,none⟩))),(13,.v (.func (.func 116) #[] #[.pointer (some ⟨gh,0,none⟩),.pointer (some ⟨gd,0,none⟩)])),(67,.v (.int .i64 (text.size : Int))),(68,.v (.int .i64 ((i : Int) + 1)))]) (by rw [show (IntKind.i64.wrap ((i : Int) + 1)) = ((i : Int) + 1) from wrap_id (by omega) (by omega)]) ?_
 refine kED [1,2,3,4,8,9,10,11,12,13,67,68] [] ?_
 exact ⟨⟨(i + 1,sl),⟨hlti,hl,(by rw [textN,← HS,text_no (by rw [hW]; omega)]),hbe⟩⟩,kF 3 0 [1,2,3,4,8,9,10,11,12,13,67,68],by show (fun (i : Nat) (sl : List Int) => text.size - i) (i + 1) sl < text.size - i; (dsimp only; omega)⟩
 have h8p := of_decide_eq_false h8
 have hti : i = text.size := by simp at h8; omega
 subst hti
 have hall : sl = allIn r seq text := HS
 obtain ⟨E,hE⟩ : ∃ E : Nat,(seqAdd seq (text.size : Int) - r.next) % 4294967296 = ((E : Nat) : Int) ∧ offN r seq text.size = E := ⟨_,offN_eq r seq text.size,rfl⟩
 refine xw_exit ?_
 refine kS ?_
 refine xw_wk (wk_pick [0,1,2] [arrF w.heap.size gh gd g5 g4 122 57 4 5 W sl,ownF w.heap.size (.slice v1a r.held.length v1c) 2 (r.held.map pceCells),slF (.slice Arh r.held.length Crh) 2 (r.held.map pceCells)] (by kernel_rfl) (by kernel_rfl)) ?_
 refine xw_turnF (fs' := [cellF w.heap.size gh 122 [.slice (some ⟨g5,0,none⟩) W W],cellF w.heap.size gd 57 [.slice (some ⟨g4,0,none⟩) W W],rowF w.heap.size 4 1 (.slice (some ⟨g5,0,none⟩) W W) ((hvOf W sl).map boolRow),rowF w.heap.size 5 1 (.slice (some ⟨g4,0,none⟩) W W) ((dtOf W sl).map byteRow),ownF w.heap.size (.slice v1a r.held.length v1c) 2 (r.held.map pceCells),slF (.slice Arh r.held.length Crh) 2 (r.held.map pceCells)]) (fun ρ σ w' h => all_out (gs := [cellF w.heap.size gh 122 [.slice (some ⟨g5,0,none⟩) W W],cellF w.heap.size gd 57 [.slice (some ⟨g4,0,none⟩) W W],rowF w.heap.size 4 1 (.slice (some ⟨g5,0,none⟩) W W) ((hvOf W sl).map boolRow),rowF w.heap.size 5 1 (.slice (some ⟨g4,0,none⟩) W W) ((dtOf W sl).map byteRow)]) (hs := [ownF w.heap.size (.slice v1a r.held.length v1c) 2 (r.held.map pceCells),slF (.slice Arh r.held.length Crh) 2 (r.held.map pceCells)]) ρ σ w' h) ?_
 refine kG ?_
 refine kEF [1,2,3,4,8,9,10,11,12,19] ⟨[(1,.v (.int .i64 seq)),(2,.v (.string text)),(3,.v (.bool fin)),(4,.p 0 0),(8,.p 1 0),(9,.p 2 0),(10,.v (.int .i64 (W : Int))),(11,.v (.pointer (some ⟨gd,0,none⟩))),(12,.v (.pointer (some ⟨gh,0,none⟩))),(19,.p 3 0)],[⟨41,rcvL r (.slice Arh r.held.length Crh)⟩,⟨41,rcvZ⟩,⟨41,rcvL r (.slice v1a r.held.length v1c)⟩,⟨41,rcvL r (.slice Arh r.held.length Crh)⟩],[],[cellF w.heap.size gh 122 [.slice (some ⟨g5,0,none⟩) W W],cellF w.heap.size gd 57 [.slice (some ⟨g4,0,none⟩) W W],rowF w.heap.size 4 1 (.slice (some ⟨g5,0,none⟩) W W) ((hvOf W sl).map boolRow),rowF w.heap.size 5 1 (.slice (some ⟨g4,0,none⟩) W W) ((dtOf W sl).map byteRow),ownF w.heap.size (.slice v1a r.held.length v1c) 2 (r.held.map pceCells),slF (.slice Arh r.held.length Crh) 2 (r.held.map pceCells)]⟩ ?_
 refine kS ?_
 refine xe_region0 [] (by kernel_rfl) (fun ρ σ => ?_)
 refine kTS [0,1,2,4,5] [104,101,99,3,4,8,9,10,11,12,19] 3 [(104,.v (.int .i64 r.next)),(101,.v (.int .i64 (text.size : Int))),(99,.v (.int .i64 seq)),(3,.v (.bool fin)),(4,.p 0 0),(8,.p 1 0),(9,.p 2 0),(10,.v (.int .i64 (W : Int))),(11,.v (.pointer (some ⟨gd,0,none⟩))),(12,.v (.pointer (some ⟨gh,0,none⟩))),(19,.p 3 0)] ?_
 refine kA [3] ?_
 refine kSC 3 115 [.int .i64 seq,.int .i64 (text.size : Int)] (some 102) rfl (xc_s fun ww hf => iSeqAdd_c seq (text.size : Int) ww ) ?_
 intro _
 refine kA [6] ?_
 refine kSC 6 117 [.int .i64 (seqAdd seq (text.size : Int)),.int .i64 r.next] (some 105) rfl (xc_s fun ww hf => ahead_c (seqAdd seq (text.size : Int)) r.next ww ) ?_
 intro _
 refine xe_eqS (t := [(105,.v (.int .i64 (((seqAdd seq (text.size : Int)) - r.next) % 4294967296))),(102,.v (.int .i64 (seqAdd seq (text.size : Int)))),(104,.v (.int .i64 r.next)),(101,.v (.int .i64 (text.size : Int))),(99,.v (.int .i64 seq)),(3,.v (.bool fin)),(4,.p 0 0),(8,.p 1 0),(9,.p 2 0),(10,.v (.int .i64 (W : Int))),(11,.v (.pointer (some ⟨gd,0,none⟩))),(12,.v (.pointer (some ⟨gh,0,none⟩))),(19,.p 3 0)]) (t' := [(105,.v (.int .i64 (E : Int))),(102,.v (.int .i64 (seqAdd seq (text.size : Int)))),(104,.v (.int .i64 r.next)),(101,.v (.int .i64 (text.size : Int))),(99,.v (.int .i64 seq)),(3,.v (.bool fin)),(4,.p 0 0),(8,.p 1 0),(9,.p 2 0),(10,.v (.int .i64 (W : Int))),(11,.v (.pointer (some ⟨gd,0,none⟩))),(12,.v (.pointer (some ⟨gh,0,none⟩))),(19,.p 3 0)]) (by rw [show (((seqAdd seq (text.size : Int)) - r.next) % 4294967296) = (E : Int) from hE.1]) ?_
 refine kTS [7] [20,3,4,8,9,10,11,12,19] 0 [(20,.v (.int .i64 (E : Int))),(3,.v (.bool fin)),(4,.p 0 0),(8,.p 1 0),(9,.p 2 0),(10,.v (.int .i64 (W : Int))),(11,.v (.pointer (some ⟨gd,0,none⟩))),(12,.v (.pointer (some ⟨gh,0,none⟩))),(19,.p 3 0)] ?_
 refine kZ ?_
 refine kS ?_
 refine xw_joinF (α := {zz : Int // (fun (fo : Int) => fo = finIn r seq text fin ∧ (-1 ≤ fo ∧ fo ≤ 32)) zz}) (fun zz => (fun (fo : Int) => (⟨[(4,.p 0 0),(8,.p 1 0),(9,.p 2 0),(10,.v (.int .i64 (W : Int))),(11,.v (.pointer (some ⟨gd,0,none⟩))),(12,.v (.pointer (some ⟨gh,0,none⟩))),(19,.p 3 0)],[⟨41,rcvL r (.slice Arh r.held.length Crh)⟩,⟨41,rcvZ⟩,⟨41,rcvL r (.slice v1a r.held.length v1c)⟩,⟨41,rcvL { r with fin := fo } (.slice Arh r.held.length Crh)⟩],[],[cellF w.heap.size gh 122 [.slice (some ⟨g5,0,none⟩) W W],cellF w.heap.size gd 57 [.slice (some ⟨g4,0,none⟩) W W],rowF w.heap.size 4 1 (.slice (some ⟨g5,0,none⟩) W W) ((hvOf W sl).map boolRow),rowF w.heap.size 5 1 (.slice (some ⟨g4,0,none⟩) W W) ((dtOf W sl).map byteRow),ownF w.heap.size (.slice v1a r.held.length v1c) 2 (r.held.map pceCells),slF (.slice Arh r.held.length Crh) 2 (r.held.map pceCells)]⟩ : St)) zz.1) ?_ ?_
 refine kQ ?_
 refine kRD 2 [4,8,9,10,11,12,19,20,107] [(107,.v (.bool fin))] ?_
 refine kP 107 (fin) (fun h12 => ?_) (fun h12 => ?_)
 refine kRD 5 [4,8,9,10,11,12,19,20,112] [(112,.v (.bool (r.fin == (-1))))] ?_
 refine kP 112 (r.fin == (-1)) (fun h13 => ?_) (fun h13 => ?_)
 have h13p := eqT h13
 refine kRD 5 [4,8,9,10,11,12,19,20,117] [(117,.v (.bool (decide ((E : Int) ≤ (W : Int)))))] ?_
 refine kP 117 (decide ((E : Int) ≤ (W : Int))) (fun h14 => ?_) (fun h14 => ?_)
 have h14p := of_decide_eq_true h14
 have hcf := hasB_free (W := W) (p := E) hbe hl hW2 (by omega)
 refine kOD 0 [4,8,9,10,11,12,19,20,117] [(117,.v (.bool true))] (.slice (some ⟨g5,0,none⟩) W W) rfl (fun _ _ _ ww hr => ldP_run (off := 0) (B := w.heap.size) (g := gh) (T := 122) (cs := [.slice (some ⟨g5,0,none⟩) W W]) hr rfl (by kernel_rfl) (by simp) (by kernel_rfl)) ?_
 refine kOD 1 [4,8,9,10,11,12,19,20,117,118,119] [(119,.v (.int .i64 (E : Int)))] (.slice (if W = E then (some ⟨g5,0,none⟩ : Option Addr) else (some ⟨g5,0,none⟩ : Option Addr).map (·.add (E * 1))) (W - E) (W - E)) rfl (fun _ _ _ ww hr => act_slVe (e := 4) (A := some ⟨g5,0,none⟩) (len := W) (cap := W) (K := 1) (k := .i64) (p' := (E : Int)) E hr.1 rfl (by kernel_rfl) (by kernel_rfl) (by kernel_rfl) (by kernel_rfl) rfl (by omega) ww) ?_
 refine kCD 0 [4,8,9,10,11,12,19,20,117,120] [] 118 [.slice (if W = E then (some ⟨g5,0,none⟩ : Option Addr) else (some ⟨g5,0,none⟩ : Option Addr).map (·.add (E * 1))) (W - E) (W - E),.bool true] (some 121) rfl (xc_b fun ww hf => yContainsB_c (((hvOf W sl).drop E).take (W - E)) (.slice (if W = E then (some ⟨g5,0,none⟩ : Option Addr) else (some ⟨g5,0,none⟩ : Option Addr).map (·.add (E * 1))) (W - E) (W - E)) true ww (Sl.partM (rowF_sl (hf _ m2)) E W (by omega) (by omega)) ) ?_
 intro _
 refine kED [4,8,9,10,11,12,19,20,123] [(123,.v (.bool (!(hasB (((hvOf W sl).drop E).take (W - E)) true))))] ?_
 refine kC (!(hasB (((hvOf W sl).drop E).take (W - E)) true)) (fun h15 => ?_) (fun h15 => ?_)
 have h15n := not_t h15
 refine kG ?_
 refine kEU [4,8,9,10,11,12,19] [] 3 ⟨41,rcvL { r with fin := (E : Int) } (.slice Arh r.held.length Crh)⟩ ?_
 exact ⟨⟨((E : Int)),⟨(by unfold finIn; rw [← hall,hW,hE.2]; first | (simp [*]; done) | grind),(by first | omega | (have := hf3; omega))⟩⟩,kF 4 0 [4,8,9,10,11,12,19]⟩
 have h15n := not_f h15
 refine kK ?_
 exact ⟨⟨(r.fin),⟨(by unfold finIn; rw [← hall,hW,hE.2]; first | (simp [*]; done) | grind),(by first | omega | (have := hf3; omega))⟩⟩,kF 4 0 [4,8,9,10,11,12,19]⟩
 have h14p := of_decide_eq_false h14
 refine kED [4,8,9,10,11,12,19,20,123] [(123,.v (.bool false))] ?_
 refine kN ?_
 refine kK ?_
 exact ⟨⟨(r.fin),⟨(by unfold finIn; rw [← hall,hW,hE.2]; first | (simp [*]; done) | grind),(by first | omega | (have := hf3; omega))⟩⟩,kF 4 0 [4,8,9,10,11,12,19]⟩
 have h13p := eqF h13
 refine kED [4,8,9,10,11,12,19,20,123] [(123,.v (.bool false))] ?_
 refine kN ?_
 refine kK ?_
 exact ⟨⟨(r.fin),⟨(by unfold finIn; rw [← hall,hW,hE.2]; first | (simp [*]; done) | grind),(by first | omega | (have := hf3; omega))⟩⟩,kF 4 0 [4,8,9,10,11,12,19]⟩
 refine kED [4,8,9,10,11,12,19,20,123] [(123,.v (.bool false))] ?_
 refine kN ?_
 refine kK ?_
 exact ⟨⟨(r.fin),⟨(by unfold finIn; rw [← hall,hW,hE.2]; first | (simp [*]; done) | grind),(by first | omega | (have := hf3; omega))⟩⟩,kF 4 0 [4,8,9,10,11,12,19]⟩
 rintro ⟨fo,hfo,hfb⟩
 try dsimp only
 try dsimp only at hfo hfb
 refine kQ ?_
 refine kED [4,8,9,10,11,12,19,21] [(21,.v (.int .i64 0))] ?_
 refine kS ?_
 refine xw_joinF (α := {zz : Nat // (fun (n2 : Nat) => n2 = filled sl ∧ n2 ≤ W ∧ (∀ x ∈ sl.take n2,0 ≤ x)) zz}) (fun zz => (fun (n2 : Nat) => (⟨[(4,.p 0 0),(8,.p 1 0),(9,.p 2 0),(10,.v (.int .i64 (W : Int))),(11,.v (.pointer (some ⟨gd,0,none⟩))),(12,.v (.pointer (some ⟨gh,0,none⟩))),(19,.p 3 0),(21,.v (.int .i64 (n2 : Int)))],[⟨41,rcvL r (.slice Arh r.held.length Crh)⟩,⟨41,rcvZ⟩,⟨41,rcvL r (.slice v1a r.held.length v1c)⟩,⟨41,rcvL { r with fin := fo } (.slice Arh r.held.length Crh)⟩],[],[cellF w.heap.size gh 122 [.slice (some ⟨g5,0,none⟩) W W],cellF w.heap.size gd 57 [.slice (some ⟨g4,0,none⟩) W W],rowF w.heap.size 4 1 (.slice (some ⟨g5,0,none⟩) W W) ((hvOf W sl).map boolRow),rowF w.heap.size 5 1 (.slice (some ⟨g4,0,none⟩) W W) ((dtOf W sl).map byteRow),ownF w.heap.size (.slice v1a r.held.length v1c) 2 (r.held.map pceCells),slF (.slice Arh r.held.length Crh) 2 (r.held.map pceCells)]⟩ : St)) zz.1) ?_ ?_
 refine xw_block ?_
 refine xw_loopW (α := {x : Nat // (fun (n2 : Nat) => n2 ≤ W ∧ (∀ x ∈ sl.take n2,0 ≤ x)) x}) (fun x => (fun (n2 : Nat) => (⟨[(4,.p 0 0),(8,.p 1 0),(9,.p 2 0),(10,.v (.int .i64 (W : Int))),(11,.v (.pointer (some ⟨gd,0,none⟩))),(12,.v (.pointer (some ⟨gh,0,none⟩))),(19,.p 3 0),(21,.v (.int .i64 (n2 : Int)))],[⟨41,rcvL r (.slice Arh r.held.length Crh)⟩,⟨41,rcvZ⟩,⟨41,rcvL r (.slice v1a r.held.length v1c)⟩,⟨41,rcvL { r with fin := fo } (.slice Arh r.held.length Crh)⟩],[],[cellF w.heap.size gh 122 [.slice (some ⟨g5,0,none⟩) W W],cellF w.heap.size gd 57 [.slice (some ⟨g4,0,none⟩) W W],rowF w.heap.size 4 1 (.slice (some ⟨g5,0,none⟩) W W) ((hvOf W sl).map boolRow),rowF w.heap.size 5 1 (.slice (some ⟨g4,0,none⟩) W W) ((dtOf W sl).map byteRow),ownF w.heap.size (.slice v1a r.held.length v1c) 2 (r.held.map pceCells),slF (.slice Arh r.held.length Crh) 2 (r.held.map pceCells)]⟩ : St)) x.1) (fun x => (fun (n2 : Nat) => W - n2) x.1) ⟨(0),⟨Nat.zero_le _,(by simp)⟩⟩ (kF 4 0 [4,8,9,10,11,12,19,21]) ?_
 rintro ⟨n2,hn2,hps⟩
 try dsimp only
 try dsimp only at hn2 hps
 refine kS ?_
 refine kQ ?_
 refine kRD 4 [4,8,9,10,11,12,19,21,129] [(129,.v (.bool (decide ((n2 : Int) < (W : Int)))))] ?_
 refine kP 129 (decide ((n2 : Int) < (W : Int))) (fun h16 => ?_) (fun h16 => ?_)
 have h16p := of_decide_eq_true h16
 have hlt2 : n2 < W := by simp at h16; omega
 obtain ⟨y,hy⟩ : ∃ y,sl[n2]? = some y := ⟨_,List.getElem?_eq_getElem (by omega)⟩
 refine kOD 0 [4,8,9,10,11,12,19,21,129] [(129,.v (.bool true))] (.slice (some ⟨g5,0,none⟩) W W) rfl (fun _ _ _ ww hr => ldP_run (off := 0) (B := w.heap.size) (g := gh) (T := 122) (cs := [.slice (some ⟨g5,0,none⟩) W W]) hr rfl (by kernel_rfl) (by simp) (by kernel_rfl)) ?_
 refine kOD 1 [4,8,9,10,11,12,19,21,129,130,131] [(131,.v (.int .i64 (n2 : Int)))] (.pointer (some ⟨g5,n2 * 1,none⟩)) rfl (fun _ _ _ ww hr => act_ix (kd := .i64) (T := 122) (e := 4) (K := 1) (g := g5) (N := W) (cap := W) n2 rfl hr.1 rfl rfl (by kernel_rfl) (by kernel_rfl) (by kernel_rfl) hlt2 ww) ?_
 refine kOD 0 [4,8,9,10,11,12,19,21,129,132] [] (.bool (decide (0 ≤ y))) rfl (fun _ _ _ ww hr => ldR_run (po := 0) (j := n2) (row := [.bool (decide (0 ≤ y))]) (rowF w.heap.size 4 1 (.slice (some ⟨g5,0,none⟩) W W) ((hvOf W sl).map boolRow)) hr rfl (by kernel_rfl) (by simp) (by simp only [List.getElem?_map,hvOf_get hlt2 hy]; rfl) (by kernel_rfl) rfl rfl rfl) ?_
 refine kED [4,8,9,10,11,12,19,21,134] [(134,.v (.bool (decide (0 ≤ y))))] ?_
 refine kC (decide (0 ≤ y)) (fun h17 => ?_) (fun h17 => ?_)
 have h17p := of_decide_eq_true h17
 have hyp := of_decide_eq_true h17
 refine kK ?_
 refine xw_block ?_
 refine kG ?_
 refine kRS 3 [4,8,9,10,11,12,19,21] [(4,.p 0 0),(8,.p 1 0),(9,.p 2 0),(10,.v (.int .i64 (W : Int))),(11,.v (.pointer (some ⟨gd,0,none⟩))),(12,.v (.pointer (some ⟨gh,0,none⟩))),(19,.p 3 0),(21,.v (.int .i64 (IntKind.i64.wrap ((n2 : Int) + 1))))] ?_
 refine xl_eqS (t' := [(4,.p 0 0),(8,.p 1 0),(9,.p 2 0),(10,.v (.int .i64 (W : Int))),(11,.v (.pointer (some ⟨gd,0,none⟩))),(12,.v (.pointer (some ⟨gh,0,none⟩))),(19,.p 3 0),(21,.v (.int .i64 ((n2 : Int) + 1)))]) (by rw [show (IntKind.i64.wrap ((n2 : Int) + 1)) = ((n2 : Int) + 1) from wrap_id (by omega) (by omega)]) ?_
 refine kED [4,8,9,10,11,12,19,21] [] ?_
 exact ⟨⟨(n2 + 1),⟨(by (try dsimp only); omega),(take_pos hps hy (by omega))⟩⟩,kF 4 0 [4,8,9,10,11,12,19,21],by show (fun (n2 : Nat) => W - n2) (n2 + 1) < W - n2; (dsimp only; omega)⟩
 have h17p := of_decide_eq_false h17
 have hyp := of_decide_eq_false h17
 refine xw_exit ?_
 exact ⟨⟨(n2),⟨(by first | exact (filled_stop (k := n2) (by omega) hps (fun z hz => by rw [hy] at hz; simp only [Option.some.injEq] at hz; omega)).symm | exact (filled_stop (k := n2) (by omega) hps (fun z hz => by rw [hbe n2 (by omega) (by omega)] at hz; simp only [Option.some.injEq] at hz; omega)).symm),hn2,hps⟩⟩,kF 4 0 [4,8,9,10,11,12,19,21]⟩
 have h16p := of_decide_eq_false h16
 have hge2 : n2 = W := by simp at h16; omega
 refine kED [4,8,9,10,11,12,19,21,134] [(134,.v (.bool false))] ?_
 refine kN ?_
 refine xw_exit ?_
 exact ⟨⟨(n2),⟨(by first | exact (filled_stop (k := n2) (by omega) hps (fun z hz => by rw [hy] at hz; simp only [Option.some.injEq] at hz; omega)).symm | exact (filled_stop (k := n2) (by omega) hps (fun z hz => by rw [hbe n2 (by omega) (by omega)] at hz; simp only [Option.some.injEq] at hz; omega)).symm),hn2,hps⟩⟩,kF 4 0 [4,8,9,10,11,12,19,21]⟩
 rintro ⟨n2,hnf,hn2,hps⟩
 try dsimp only
 try dsimp only at hnf hn2 hps
 refine kS ?_
 refine xw_join ⟨[(4,.p 0 0),(8,.p 1 0),(9,.p 2 0),(10,.v (.int .i64 (W : Int))),(11,.v (.pointer (some ⟨gd,0,none⟩))),(12,.v (.pointer (some ⟨gh,0,none⟩))),(19,.p 3 0),(21,.v (.int .i64 (n2 : Int)))],[⟨41,rcvL r (.slice Arh r.held.length Crh)⟩,⟨41,rcvZ⟩,⟨41,rcvL r (.slice v1a r.held.length v1c)⟩,⟨41,rcvL { r with data := r.data ++ (bstr (sl.take n2)),fin := fo } (.slice Arh r.held.length Crh)⟩],[],[cellF w.heap.size gh 122 [.slice (some ⟨g5,0,none⟩) W W],cellF w.heap.size gd 57 [.slice (some ⟨g4,0,none⟩) W W],rowF w.heap.size 4 1 (.slice (some ⟨g5,0,none⟩) W W) ((hvOf W sl).map boolRow),rowF w.heap.size 5 1 (.slice (some ⟨g4,0,none⟩) W W) ((dtOf W sl).map byteRow),ownF w.heap.size (.slice v1a r.held.length v1c) 2 (r.held.map pceCells),slF (.slice Arh r.held.length Crh) 2 (r.held.map pceCells)]⟩ ?_ ?_
 refine xws_start ?_
 refine xws_cell (B := w.heap.size) (g := gd) (T := 57) (cs := [.slice (some ⟨g4,0,none⟩) W W]) (fun _ _ h => h) (by simp) ?_
 refine xws_regionE [true,true,true,false] (by kernel_rfl) (fun ρ σ hq18 => ?_)
 refine kTS [0,3] [140,137,4,8,9,10,11,12,19,21] 7 [(140,.v (.int .i64 (n2 : Int))),(137,.p 3 1),(4,.p 0 0),(8,.p 1 0),(9,.p 2 0),(10,.v (.int .i64 (W : Int))),(11,.v (.pointer (some ⟨gd,0,none⟩))),(12,.v (.pointer (some ⟨gh,0,none⟩))),(19,.p 3 0),(21,.v (.int .i64 (n2 : Int)))] ?_
 refine xe_opH 2 (.slice (some ⟨g4,0,none⟩) W W) _ rfl (by kernel_rfl) (by kernel_rfl) (by kernel_rfl) (fun _ _ h => h) (by kernel_rfl) rfl (fun _ _ ww hA hS => ld_range (g := gd) (off := 0) (cs := [.slice (some ⟨g4,0,none⟩) W W]) hA rfl (by kernel_rfl) (rd_row hS (h := 0) rfl hq18.2) (by kernel_rfl)) rfl ?_
 refine kA [1,4] ⟨?_,?_⟩
 refine kSV 1 (.v (.string r.data)) rfl ?_
 refine kA [4] ?_
 refine kSR 4 (.slice (if W = 0 then (some ⟨g4,0,none⟩ : Option Addr) else (some ⟨g4,0,none⟩ : Option Addr).map (·.add (0 * 1))) (n2 - 0) (W - 0)) rfl (fun _ _ ww hr => act_slV0 (e := 5) (A := some ⟨g4,0,none⟩) (len := W) (cap := W) (K := 1) (k' := .i64) (q' := (n2 : Int)) n2 hr.1 rfl (by kernel_rfl) (by kernel_rfl) (by kernel_rfl) (by kernel_rfl) rfl (Nat.le_trans (show n2 ≤ W by omega) (Sl.capLe (rowF_sl (hr.2.fact (rowF w.heap.size 5 1 (.slice (some ⟨g4,0,none⟩) W W) ((dtOf W sl).map byteRow)) (by simp)).1))) ww) ?_
 refine kA [5] ?_
 refine kSR 5 (.string (bstr (((dtOf W sl).drop 0).take (n2 - 0)))) rfl (fun _ _ ww hr => act_b2s (e := 5) (((dtOf W sl).drop 0).take (n2 - 0)) hr.1 rfl (by kernel_rfl) (by kernel_rfl) (by kernel_rfl) rfl (Sl.partM (rowF_sl (hr.2.fact (rowF w.heap.size 5 1 (.slice (some ⟨g4,0,none⟩) W W) ((dtOf W sl).map byteRow)) (by simp)).1) 0 n2 (by omega) (by omega))) ?_
 refine xe_eqS (t := [(142,.v (.string (bstr (((dtOf W sl).drop 0).take (n2 - 0))))),(141,.v (.slice (if W = 0 then (some ⟨g4,0,none⟩ : Option Addr) else (some ⟨g4,0,none⟩ : Option Addr).map (·.add (0 * 1))) (n2 - 0) (W - 0))),(138,.v (.string r.data)),(139,.v (.slice (some ⟨g4,0,none⟩) W W)),(140,.v (.int .i64 (n2 : Int))),(137,.p 3 1),(4,.p 0 0),(8,.p 1 0),(9,.p 2 0),(10,.v (.int .i64 (W : Int))),(11,.v (.pointer (some ⟨gd,0,none⟩))),(12,.v (.pointer (some ⟨gh,0,none⟩))),(19,.p 3 0),(21,.v (.int .i64 (n2 : Int)))]) (t' := [(142,.v (.string (bstr (sl.take n2)))),(141,.v (.slice (if W = 0 then (some ⟨g4,0,none⟩ : Option Addr) else (some ⟨g4,0,none⟩ : Option Addr).map (·.add (0 * 1))) (n2 - 0) (W - 0))),(138,.v (.string r.data)),(139,.v (.slice (some ⟨g4,0,none⟩) W W)),(140,.v (.int .i64 (n2 : Int))),(137,.p 3 1),(4,.p 0 0),(8,.p 1 0),(9,.p 2 0),(10,.v (.int .i64 (W : Int))),(11,.v (.pointer (some ⟨gd,0,none⟩))),(12,.v (.pointer (some ⟨gh,0,none⟩))),(19,.p 3 0),(21,.v (.int .i64 (n2 : Int)))]) (by rw [show (bstr (((dtOf W sl).drop 0).take (n2 - 0))) = (bstr (sl.take n2)) from dt_head hn2 hps]) ?_
 refine kX 6 (.string (r.data ++ (bstr (sl.take n2)))) rfl (fun _ _ ww hA => act_bin hA rfl (by kernel_rfl) (by kernel_rfl) (str_add (by rw [bstr_size,List.length_take]; omega) ww)) ?_
 refine kTS [7] [144,143,4,8,9,10,11,12,19,21] 1 [(144,.p 3 1),(143,.v (.string (r.data ++ (bstr (sl.take n2))))),(4,.p 0 0),(8,.p 1 0),(9,.p 2 0),(10,.v (.int .i64 (W : Int))),(11,.v (.pointer (some ⟨gd,0,none⟩))),(12,.v (.pointer (some ⟨gh,0,none⟩))),(19,.p 3 0),(21,.v (.int .i64 (n2 : Int)))] ?_
 refine kA [8] ?_
 refine kSS 8 3 1 [.string (r.data ++ (bstr (sl.take n2)))] rfl ?_
 refine kZ ?_
 exact kF 4 0 [4,8,9,10,11,12,19,21]
 refine kSR 4 (.slice (if W = 0 then (some ⟨g4,0,none⟩ : Option Addr) else (some ⟨g4,0,none⟩ : Option Addr).map (·.add (0 * 1))) (n2 - 0) (W - 0)) rfl (fun _ _ ww hr => act_slV0 (e := 5) (A := some ⟨g4,0,none⟩) (len := W) (cap := W) (K := 1) (k' := .i64) (q' := (n2 : Int)) n2 hr.1 rfl (by kernel_rfl) (by kernel_rfl) (by kernel_rfl) (by kernel_rfl) rfl (Nat.le_trans (show n2 ≤ W by omega) (Sl.capLe (rowF_sl (hr.2.fact (rowF w.heap.size 5 1 (.slice (some ⟨g4,0,none⟩) W W) ((dtOf W sl).map byteRow)) (by simp)).1))) ww) ?_
 refine kA [1,5] ⟨?_,?_⟩
 refine kSV 1 (.v (.string r.data)) rfl ?_
 refine kA [5] ?_
 refine kSR 5 (.string (bstr (((dtOf W sl).drop 0).take (n2 - 0)))) rfl (fun _ _ ww hr => act_b2s (e := 5) (((dtOf W sl).drop 0).take (n2 - 0)) hr.1 rfl (by kernel_rfl) (by kernel_rfl) (by kernel_rfl) rfl (Sl.partM (rowF_sl (hr.2.fact (rowF w.heap.size 5 1 (.slice (some ⟨g4,0,none⟩) W W) ((dtOf W sl).map byteRow)) (by simp)).1) 0 n2 (by omega) (by omega))) ?_
 refine xe_eqS (t := [(142,.v (.string (bstr (((dtOf W sl).drop 0).take (n2 - 0))))),(138,.v (.string r.data)),(141,.v (.slice (if W = 0 then (some ⟨g4,0,none⟩ : Option Addr) else (some ⟨g4,0,none⟩ : Option Addr).map (·.add (0 * 1))) (n2 - 0) (W - 0))),(139,.v (.slice (some ⟨g4,0,none⟩) W W)),(140,.v (.int .i64 (n2 : Int))),(137,.p 3 1),(4,.p 0 0),(8,.p 1 0),(9,.p 2 0),(10,.v (.int .i64 (W : Int))),(11,.v (.pointer (some ⟨gd,0,none⟩))),(12,.v (.pointer (some ⟨gh,0,none⟩))),(19,.p 3 0),(21,.v (.int .i64 (n2 : Int)))]) (t' := [(142,.v (.string (bstr (sl.take n2)))),(138,.v (.string r.data)),(141,.v (.slice (if W = 0 then (some ⟨g4,0,none⟩ : Option Addr) else (some ⟨g4,0,none⟩ : Option Addr).map (·.add (0 * 1))) (n2 - 0) (W - 0))),(139,.v (.slice (some ⟨g4,0,none⟩) W W)),(140,.v (.int .i64 (n2 : Int))),(137,.p 3 1),(4,.p 0 0),(8,.p 1 0),(9,.p 2 0),(10,.v (.int .i64 (W : Int))),(11,.v (.pointer (some ⟨gd,0,none⟩))),(12,.v (.pointer (some ⟨gh,0,none⟩))),(19,.p 3 0),(21,.v (.int .i64 (n2 : Int)))]) (by rw [show (bstr (((dtOf W sl).drop 0).take (n2 - 0))) = (bstr (sl.take n2)) from dt_head hn2 hps]) ?_
 refine kX 6 (.string (r.data ++ (bstr (sl.take n2)))) rfl (fun _ _ ww hA => act_bin hA rfl (by kernel_rfl) (by kernel_rfl) (str_add (by rw [bstr_size,List.length_take]; omega) ww)) ?_
 refine kTS [7] [144,143,4,8,9,10,11,12,19,21] 1 [(144,.p 3 1),(143,.v (.string (r.data ++ (bstr (sl.take n2))))),(4,.p 0 0),(8,.p 1 0),(9,.p 2 0),(10,.v (.int .i64 (W : Int))),(11,.v (.pointer (some ⟨gd,0,none⟩))),(12,.v (.pointer (some ⟨gh,0,none⟩))),(19,.p 3 0),(21,.v (.int .i64 (n2 : Int)))] ?_
 refine kA [8] ?_
 refine kSS 8 3 1 [.string (r.data ++ (bstr (sl.take n2)))] rfl ?_
 refine kZ ?_
 exact kF 4 0 [4,8,9,10,11,12,19,21]
 refine kSR 5 (.string (bstr (((dtOf W sl).drop 0).take (n2 - 0)))) rfl (fun _ _ ww hr => act_b2s (e := 5) (((dtOf W sl).drop 0).take (n2 - 0)) hr.1 rfl (by kernel_rfl) (by kernel_rfl) (by kernel_rfl) rfl (Sl.partM (rowF_sl (hr.2.fact (rowF w.heap.size 5 1 (.slice (some ⟨g4,0,none⟩) W W) ((dtOf W sl).map byteRow)) (by simp)).1) 0 n2 (by omega) (by omega))) ?_
 refine xe_eqS (t := [(142,.v (.string (bstr (((dtOf W sl).drop 0).take (n2 - 0))))),(141,.v (.slice (if W = 0 then (some ⟨g4,0,none⟩ : Option Addr) else (some ⟨g4,0,none⟩ : Option Addr).map (·.add (0 * 1))) (n2 - 0) (W - 0))),(139,.v (.slice (some ⟨g4,0,none⟩) W W)),(140,.v (.int .i64 (n2 : Int))),(137,.p 3 1),(4,.p 0 0),(8,.p 1 0),(9,.p 2 0),(10,.v (.int .i64 (W : Int))),(11,.v (.pointer (some ⟨gd,0,none⟩))),(12,.v (.pointer (some ⟨gh,0,none⟩))),(19,.p 3 0),(21,.v (.int .i64 (n2 : Int)))]) (t' := [(142,.v (.string (bstr (sl.take n2)))),(141,.v (.slice (if W = 0 then (some ⟨g4,0,none⟩ : Option Addr) else (some ⟨g4,0,none⟩ : Option Addr).map (·.add (0 * 1))) (n2 - 0) (W - 0))),(139,.v (.slice (some ⟨g4,0,none⟩) W W)),(140,.v (.int .i64 (n2 : Int))),(137,.p 3 1),(4,.p 0 0),(8,.p 1 0),(9,.p 2 0),(10,.v (.int .i64 (W : Int))),(11,.v (.pointer (some ⟨gd,0,none⟩))),(12,.v (.pointer (some ⟨gh,0,none⟩))),(19,.p 3 0),(21,.v (.int .i64 (n2 : Int)))]) (by rw [show (bstr (((dtOf W sl).drop 0).take (n2 - 0))) = (bstr (sl.take n2)) from dt_head hn2 hps]) ?_
 refine kA [1] ?_
 refine kSV 1 (.v (.string r.data)) rfl ?_
 refine kX 6 (.string (r.data ++ (bstr (sl.take n2)))) rfl (fun _ _ ww hA => act_bin hA rfl (by kernel_rfl) (by kernel_rfl) (str_add (by rw [bstr_size,List.length_take]; omega) ww)) ?_
 refine kTS [7] [144,143,4,8,9,10,11,12,19,21] 1 [(144,.p 3 1),(143,.v (.string (r.data ++ (bstr (sl.take n2))))),(4,.p 0 0),(8,.p 1 0),(9,.p 2 0),(10,.v (.int .i64 (W : Int))),(11,.v (.pointer (some ⟨gd,0,none⟩))),(12,.v (.pointer (some ⟨gh,0,none⟩))),(19,.p 3 0),(21,.v (.int .i64 (n2 : Int)))] ?_
 refine kA [8] ?_
 refine kSS 8 3 1 [.string (r.data ++ (bstr (sl.take n2)))] rfl ?_
 refine kZ ?_
 exact kF 4 0 [4,8,9,10,11,12,19,21]
 refine kQ ?_
 refine kCD 3 [8,9,10,11,12,19,21,146,147] [(146,.v (.int .i64 r.next)),(147,.v (.int .i64 (n2 : Int)))] 115 [.int .i64 r.next,.int .i64 (n2 : Int)] (some 148) rfl (xc_s fun ww hf => iSeqAdd_c r.next (n2 : Int) ww ) ?_
 intro _
 refine kEU [8,9,10,11,12,19,21] [] 3 ⟨41,[.int .i64 (seqAdd r.next (n2 : Int)),.string (r.data ++ (bstr (sl.take n2))),.slice Arh r.held.length Crh,.int .i64 fo,.bool r.done]⟩ ?_
 refine kS ?_
 refine xw_joinF (α := {zz : Int // (fun (fp : Int) => fp = finOut r seq text fin) zz}) (fun zz => (fun (fp : Int) => (⟨[(8,.p 1 0),(9,.p 2 0),(10,.v (.int .i64 (W : Int))),(11,.v (.pointer (some ⟨gd,0,none⟩))),(12,.v (.pointer (some ⟨gh,0,none⟩))),(19,.p 3 0),(21,.v (.int .i64 (n2 : Int)))],[⟨41,rcvL r (.slice Arh r.held.length Crh)⟩,⟨41,rcvZ⟩,⟨41,rcvL r (.slice v1a r.held.length v1c)⟩,⟨41,[.int .i64 (seqAdd r.next (n2 : Int)),.string (r.data ++ (bstr (sl.take n2))),.slice Arh r.held.length Crh,.int .i64 fp,.bool r.done]⟩],[],[cellF w.heap.size gh 122 [.slice (some ⟨g5,0,none⟩) W W],cellF w.heap.size gd 57 [.slice (some ⟨g4,0,none⟩) W W],rowF w.heap.size 4 1 (.slice (some ⟨g5,0,none⟩) W W) ((hvOf W sl).map boolRow),rowF w.heap.size 5 1 (.slice (some ⟨g4,0,none⟩) W W) ((dtOf W sl).map byteRow),ownF w.heap.size (.slice v1a r.held.length v1c) 2 (r.held.map pceCells),slF (.slice Arh r.held.length Crh) 2 (r.held.map pceCells)]⟩ : St)) zz.1) ?_ ?_
 refine kQ ?_
 refine kED [8,9,10,11,12,19,21,152] [(152,.v (.bool (fo != (-1))))] ?_
 refine kC (fo != (-1)) (fun h19 => ?_) (fun h19 => ?_)
 have h19p := neT h19
 refine kG ?_
 refine kRF 6 [8,9,10,11,12,19,21] ⟨[(8,.p 1 0),(9,.p 2 0),(10,.v (.int .i64 (W : Int))),(11,.v (.pointer (some ⟨gd,0,none⟩))),(12,.v (.pointer (some ⟨gh,0,none⟩))),(19,.p 3 0),(21,.v (.int .i64 (n2 : Int)))],[⟨41,rcvL r (.slice Arh r.held.length Crh)⟩,⟨41,rcvZ⟩,⟨41,rcvL r (.slice v1a r.held.length v1c)⟩,⟨41,[.int .i64 (seqAdd r.next (n2 : Int)),.string (r.data ++ (bstr (sl.take n2))),.slice Arh r.held.length Crh,.int .i64 (IntKind.i64.wrap (fo - (n2 : Int))),.bool r.done]⟩],[],[cellF w.heap.size gh 122 [.slice (some ⟨g5,0,none⟩) W W],cellF w.heap.size gd 57 [.slice (some ⟨g4,0,none⟩) W W],rowF w.heap.size 4 1 (.slice (some ⟨g5,0,none⟩) W W) ((hvOf W sl).map boolRow),rowF w.heap.size 5 1 (.slice (some ⟨g4,0,none⟩) W W) ((dtOf W sl).map byteRow),ownF w.heap.size (.slice v1a r.held.length v1c) 2 (r.held.map pceCells),slF (.slice Arh r.held.length Crh) 2 (r.held.map pceCells)]⟩ ?_
 refine xl_eq (st' := ⟨[(8,.p 1 0),(9,.p 2 0),(10,.v (.int .i64 (W : Int))),(11,.v (.pointer (some ⟨gd,0,none⟩))),(12,.v (.pointer (some ⟨gh,0,none⟩))),(19,.p 3 0),(21,.v (.int .i64 (n2 : Int)))],[⟨41,rcvL r (.slice Arh r.held.length Crh)⟩,⟨41,rcvZ⟩,⟨41,rcvL r (.slice v1a r.held.length v1c)⟩,⟨41,[.int .i64 (seqAdd r.next (n2 : Int)),.string (r.data ++ (bstr (sl.take n2))),.slice Arh r.held.length Crh,.int .i64 (fo - (n2 : Int)),.bool r.done]⟩],[],[cellF w.heap.size gh 122 [.slice (some ⟨g5,0,none⟩) W W],cellF w.heap.size gd 57 [.slice (some ⟨g4,0,none⟩) W W],rowF w.heap.size 4 1 (.slice (some ⟨g5,0,none⟩) W W) ((hvOf W sl).map boolRow),rowF w.heap.size 5 1 (.slice (some ⟨g4,0,none⟩) W W) ((dtOf W sl).map byteRow),ownF w.heap.size (.slice v1a r.held.length v1c) 2 (r.held.map pceCells),slF (.slice Arh r.held.length Crh) 2 (r.held.map pceCells)]⟩) (by rw [show (IntKind.i64.wrap (fo - (n2 : Int))) = (fo - (n2 : Int)) from wrap_id (by omega) (by omega)] <;> rfl) ?_
 refine kED [8,9,10,11,12,19,21] [] ?_
 exact ⟨⟨(fo - (n2 : Int)),(by unfold finOut; rw [← hall,← hnf,← hfo]; first | rw [if_pos (by omega)] | rw [if_neg (by omega)])⟩,kF 4 0 [8,9,10,11,12,19,21]⟩
 have h19p := neF h19
 refine kK ?_
 exact ⟨⟨(fo),(by unfold finOut; rw [← hall,← hnf,← hfo]; first | rw [if_pos (by omega)] | rw [if_neg (by omega)])⟩,kF 4 0 [8,9,10,11,12,19,21]⟩
 rintro ⟨fp,hfp⟩
 try dsimp only
 try dsimp only at hfp
 refine kQ ?_
 refine kEU [8,9,10,11,12,19,21] [] 3 ⟨41,[.int .i64 (seqAdd r.next (n2 : Int)),.string (r.data ++ (bstr (sl.take n2))),.slice none 0 0,.int .i64 fp,.bool r.done]⟩ ?_
 refine kS ?_
 refine kQ ?_
 refine kED [8,9,10,11,12,19,21,22] [(22,.v (.int .i64 (n2 : Int)))] ?_
 refine xw_block ?_
 refine xw_free (rowF w.heap.size 85 2 (.slice none 0 0) (([] : List Pce).map pceCells)) (fun ww hww => nilF_p _ _ ww hww) (fun b => nilF_b _ _ _ b) ?_
 refine xw_loopW (α := {x : Nat × List Pce × Option Addr × Nat // (fun (i : Nat) (out : List Pce) (A1 : Option Addr) (c1 : Nat) => (n2 ≤ i ∧ i ≤ W) ∧ pcs [] 0 (sl.drop n2) = pcs out (i - n2) (sl.drop i) ∧ (∀ p ∈ out,0 ≤ p.off ∧ p.off + (p.text.size : Int) ≤ ((i - n2 : Nat) : Int)) ∧ (∀ x,sl[i]? = some x → 0 ≤ x → ¬ touches out (i - n2)) ∧ out.length ≤ i) x.1 x.2.1 x.2.2.1 x.2.2.2}) (fun x => (fun (i : Nat) (out : List Pce) (A1 : Option Addr) (c1 : Nat) => (⟨[(8,.p 1 0),(9,.p 2 0),(10,.v (.int .i64 (W : Int))),(11,.v (.pointer (some ⟨gd,0,none⟩))),(12,.v (.pointer (some ⟨gh,0,none⟩))),(19,.p 3 0),(21,.v (.int .i64 (n2 : Int))),(22,.v (.int .i64 (i : Int)))],[⟨41,rcvL r (.slice Arh r.held.length Crh)⟩,⟨41,rcvZ⟩,⟨41,rcvL r (.slice v1a r.held.length v1c)⟩,⟨41,[.int .i64 (seqAdd r.next (n2 : Int)),.string (r.data ++ (bstr (sl.take n2))),.slice A1 out.length c1,.int .i64 fp,.bool r.done]⟩],[],[rowF w.heap.size 85 2 (.slice A1 out.length c1) (out.map pceCells),cellF w.heap.size gh 122 [.slice (some ⟨g5,0,none⟩) W W],cellF w.heap.size gd 57 [.slice (some ⟨g4,0,none⟩) W W],rowF w.heap.size 4 1 (.slice (some ⟨g5,0,none⟩) W W) ((hvOf W sl).map boolRow),rowF w.heap.size 5 1 (.slice (some ⟨g4,0,none⟩) W W) ((dtOf W sl).map byteRow),ownF w.heap.size (.slice v1a r.held.length v1c) 2 (r.held.map pceCells),slF (.slice Arh r.held.length Crh) 2 (r.held.map pceCells)]⟩ : St)) x.1.1 x.1.2.1 x.1.2.2.1 x.1.2.2.2) (fun x => (fun (i : Nat) (out : List Pce) (A1 : Option Addr) (c1 : Nat) => W - i) x.1.1 x.1.2.1 x.1.2.2.1 x.1.2.2.2) ⟨(n2,([] : List Pce),none,0),⟨⟨Nat.le_refl _,hn2⟩,(by rw [Nat.sub_self]),(by simp),(fun x _ _ => by rintro ⟨p,hp,-⟩; simp at hp),Nat.zero_le _⟩⟩ (kF 4 0 [8,9,10,11,12,19,21,22]) ?_
 rintro ⟨⟨i,out,A1,c1⟩,hi,HP,hbd,htc,hol⟩
 try dsimp only
 try dsimp only at hi HP hbd htc hol
 refine kS ?_
 refine kQ ?_
 refine kED [8,9,10,11,12,19,21,22,162] [(162,.v (.bool (decide ((i : Int) < (W : Int)))))] ?_
 refine kC (decide ((i : Int) < (W : Int))) (fun h20 => ?_) (fun h20 => ?_)
 have h20p := of_decide_eq_true h20
 have hlt5 : i < W := by simp at h20; omega
 obtain ⟨y2,hy2⟩ : ∃ y,sl[i]? = some y := ⟨_,List.getElem?_eq_getElem (by omega)⟩
 refine kK ?_
 refine xw_block ?_
 refine kS ?_
 refine kQ ?_
 refine kOD 0 [8,9,10,11,12,19,21,22] [] (.slice (some ⟨g5,0,none⟩) W W) rfl (fun _ _ _ ww hr => ldP_run (off := 0) (B := w.heap.size) (g := gh) (T := 122) (cs := [.slice (some ⟨g5,0,none⟩) W W]) hr rfl (by kernel_rfl) (by simp) (by kernel_rfl)) ?_
 refine kOD 1 [8,9,10,11,12,19,21,22,163,164] [(164,.v (.int .i64 (i : Int)))] (.pointer (some ⟨g5,i * 1,none⟩)) rfl (fun _ _ _ ww hr => act_ix (kd := .i64) (T := 122) (e := 4) (K := 1) (g := g5) (N := W) (cap := W) i rfl hr.1 rfl rfl (by kernel_rfl) (by kernel_rfl) (by kernel_rfl) hlt5 ww) ?_
 refine kOD 0 [8,9,10,11,12,19,21,22,165] [] (.bool (decide (0 ≤ y2))) rfl (fun _ _ _ ww hr => ldR_run (po := 0) (j := i) (row := [.bool (decide (0 ≤ y2))]) (rowF w.heap.size 4 1 (.slice (some ⟨g5,0,none⟩) W W) ((hvOf W sl).map boolRow)) hr rfl (by kernel_rfl) (by simp) (by simp only [List.getElem?_map,hvOf_get hlt5 hy2]; rfl) (by kernel_rfl) rfl rfl rfl) ?_
 refine kED [8,9,10,11,12,19,21,22,167] [(167,.v (.bool (!(decide (0 ≤ y2)))))] ?_
 refine kC (!(decide (0 ≤ y2))) (fun h21 => ?_) (fun h21 => ?_)
 have h21n := not_t h21
 have hy2p := of_decide_eq_false h21n
 refine kQ ?_
 refine kRS 3 [8,9,10,11,12,19,21,22] [(8,.p 1 0),(9,.p 2 0),(10,.v (.int .i64 (W : Int))),(11,.v (.pointer (some ⟨gd,0,none⟩))),(12,.v (.pointer (some ⟨gh,0,none⟩))),(19,.p 3 0),(21,.v (.int .i64 (n2 : Int))),(22,.v (.int .i64 (IntKind.i64.wrap ((i : Int) + 1))))] ?_
 refine xl_eqS (t' := [(8,.p 1 0),(9,.p 2 0),(10,.v (.int .i64 (W : Int))),(11,.v (.pointer (some ⟨gd,0,none⟩))),(12,.v (.pointer (some ⟨gh,0,none⟩))),(19,.p 3 0),(21,.v (.int .i64 (n2 : Int))),(22,.v (.int .i64 ((i : Int) + 1)))]) (by rw [show (IntKind.i64.wrap ((i : Int) + 1)) = ((i : Int) + 1) from wrap_id (by omega) (by omega)]) ?_
 refine kED [8,9,10,11,12,19,21,22] [] ?_
 refine xw_exit ?_
 exact ⟨⟨(i + 1,out,A1,c1),⟨(by (try dsimp only); omega),(by rw [HP,pcs_step (l := sl) (m := n2) hy2 (by omega),if_pos (by omega)]),(fun p hp => by have := hbd p hp; (try dsimp only); omega),(fun x _ _ => by rw [show i + 1 - n2 = (i - n2) + 1 by omega]; exact touch_skip hbd),(by (try dsimp only); omega)⟩⟩,kF 4 0 [8,9,10,11,12,19,21,22],by show (fun (i : Nat) (out : List Pce) (A1 : Option Addr) (c1 : Nat) => W - i) (i + 1) out A1 c1 < W - i; (dsimp only; omega)⟩
 have h21n := not_f h21
 have hy2p := of_decide_eq_true h21n
 refine kK ?_
 refine kQ ?_
 refine kED [8,9,10,11,12,19,21,22,23] [(23,.v (.int .i64 (i : Int)))] ?_
 refine kS ?_
 refine xw_joinF (α := {zz : Nat // (fun (j : Nat) => (i < j ∧ j ≤ W) ∧ (∀ x ∈ (sl.drop i).take (j - i),0 ≤ x) ∧ (∀ z,sl[j]? = some z → z < 0)) zz}) (fun zz => (fun (j : Nat) => (⟨[(8,.p 1 0),(9,.p 2 0),(10,.v (.int .i64 (W : Int))),(11,.v (.pointer (some ⟨gd,0,none⟩))),(12,.v (.pointer (some ⟨gh,0,none⟩))),(19,.p 3 0),(21,.v (.int .i64 (n2 : Int))),(22,.v (.int .i64 (j : Int))),(23,.v (.int .i64 (i : Int)))],[⟨41,rcvL r (.slice Arh r.held.length Crh)⟩,⟨41,rcvZ⟩,⟨41,rcvL r (.slice v1a r.held.length v1c)⟩,⟨41,[.int .i64 (seqAdd r.next (n2 : Int)),.string (r.data ++ (bstr (sl.take n2))),.slice A1 out.length c1,.int .i64 fp,.bool r.done]⟩],[],[rowF w.heap.size 85 2 (.slice A1 out.length c1) (out.map pceCells),cellF w.heap.size gh 122 [.slice (some ⟨g5,0,none⟩) W W],cellF w.heap.size gd 57 [.slice (some ⟨g4,0,none⟩) W W],rowF w.heap.size 4 1 (.slice (some ⟨g5,0,none⟩) W W) ((hvOf W sl).map boolRow),rowF w.heap.size 5 1 (.slice (some ⟨g4,0,none⟩) W W) ((dtOf W sl).map byteRow),ownF w.heap.size (.slice v1a r.held.length v1c) 2 (r.held.map pceCells),slF (.slice Arh r.held.length Crh) 2 (r.held.map pceCells)]⟩ : St)) zz.1) ?_ ?_
 refine xw_block ?_
 refine xw_loopW (α := {x : Nat // (fun (j : Nat) => (i ≤ j ∧ j ≤ W) ∧ (∀ x ∈ (sl.drop i).take (j - i),0 ≤ x)) x}) (fun x => (fun (j : Nat) => (⟨[(8,.p 1 0),(9,.p 2 0),(10,.v (.int .i64 (W : Int))),(11,.v (.pointer (some ⟨gd,0,none⟩))),(12,.v (.pointer (some ⟨gh,0,none⟩))),(19,.p 3 0),(21,.v (.int .i64 (n2 : Int))),(22,.v (.int .i64 (j : Int))),(23,.v (.int .i64 (i : Int)))],[⟨41,rcvL r (.slice Arh r.held.length Crh)⟩,⟨41,rcvZ⟩,⟨41,rcvL r (.slice v1a r.held.length v1c)⟩,⟨41,[.int .i64 (seqAdd r.next (n2 : Int)),.string (r.data ++ (bstr (sl.take n2))),.slice A1 out.length c1,.int .i64 fp,.bool r.done]⟩],[],[rowF w.heap.size 85 2 (.slice A1 out.length c1) (out.map pceCells),cellF w.heap.size gh 122 [.slice (some ⟨g5,0,none⟩) W W],cellF w.heap.size gd 57 [.slice (some ⟨g4,0,none⟩) W W],rowF w.heap.size 4 1 (.slice (some ⟨g5,0,none⟩) W W) ((hvOf W sl).map boolRow),rowF w.heap.size 5 1 (.slice (some ⟨g4,0,none⟩) W W) ((dtOf W sl).map byteRow),ownF w.heap.size (.slice v1a r.held.length v1c) 2 (r.held.map pceCells),slF (.slice Arh r.held.length Crh) 2 (r.held.map pceCells)]⟩ : St)) x.1) (fun x => (fun (j : Nat) => W - j) x.1) ⟨(i),⟨⟨Nat.le_refl _,by omega⟩,(by rw [Nat.sub_self]; simp)⟩⟩ (kF 4 0 [8,9,10,11,12,19,21,22,23]) ?_
 rintro ⟨j,hij,hrun⟩
 try dsimp only
 try dsimp only at hij hrun
 refine kS ?_
 refine kQ ?_
 refine kRS 4 [8,9,10,11,12,19,21,22,23,174] [(8,.p 1 0),(9,.p 2 0),(10,.v (.int .i64 (W : Int))),(11,.v (.pointer (some ⟨gd,0,none⟩))),(12,.v (.pointer (some ⟨gh,0,none⟩))),(19,.p 3 0),(21,.v (.int .i64 (n2 : Int))),(22,.v (.int .i64 (j : Int))),(23,.v (.int .i64 (i : Int))),(174,.v (.bool (decide ((j : Int) < (W : Int)))))] ?_
 refine kP 174 (decide ((j : Int) < (W : Int))) (fun h22 => ?_) (fun h22 => ?_)
 have h22p := of_decide_eq_true h22
 have hlt6 : j < W := by simp at h22; omega
 obtain ⟨y3,hy3⟩ : ∃ y,sl[j]? = some y := ⟨_,List.getElem?_eq_getElem (by omega)⟩
 refine kOD 0 [8,9,10,11,12,19,21,22,23,174] [(174,.v (.bool true))] (.slice (some ⟨g5,0,none⟩) W W) rfl (fun _ _ _ ww hr => ldP_run (off := 0) (B := w.heap.size) (g := gh) (T := 122) (cs := [.slice (some ⟨g5,0,none⟩) W W]) hr rfl (by kernel_rfl) (by simp) (by kernel_rfl)) ?_
 refine kOD 1 [8,9,10,11,12,19,21,22,23,174,175,176] [(176,.v (.int .i64 (j : Int)))] (.pointer (some ⟨g5,j * 1,none⟩)) rfl (fun _ _ _ ww hr => act_ix (kd := .i64) (T := 122) (e := 4) (K := 1) (g := g5) (N := W) (cap := W) j rfl hr.1 rfl rfl (by kernel_rfl) (by kernel_rfl) (by kernel_rfl) hlt6 ww) ?_
 refine kOD 0 [8,9,10,11,12,19,21,22,23,174,177] [] (.bool (decide (0 ≤ y3))) rfl (fun _ _ _ ww hr => ldR_run (po := 0) (j := j) (row := [.bool (decide (0 ≤ y3))]) (rowF w.heap.size 4 1 (.slice (some ⟨g5,0,none⟩) W W) ((hvOf W sl).map boolRow)) hr rfl (by kernel_rfl) (by simp) (by simp only [List.getElem?_map,hvOf_get hlt6 hy3]; rfl) (by kernel_rfl) rfl rfl rfl) ?_
 refine kED [8,9,10,11,12,19,21,22,23,179] [(179,.v (.bool (decide (0 ≤ y3))))] ?_
 refine kC (decide (0 ≤ y3)) (fun h23 => ?_) (fun h23 => ?_)
 have h23p := of_decide_eq_true h23
 have hy3p := of_decide_eq_true h23
 refine kK ?_
 refine xw_block ?_
 refine kG ?_
 refine kRS 3 [8,9,10,11,12,19,21,22,23] [(8,.p 1 0),(9,.p 2 0),(10,.v (.int .i64 (W : Int))),(11,.v (.pointer (some ⟨gd,0,none⟩))),(12,.v (.pointer (some ⟨gh,0,none⟩))),(19,.p 3 0),(21,.v (.int .i64 (n2 : Int))),(22,.v (.int .i64 (IntKind.i64.wrap ((j : Int) + 1)))),(23,.v (.int .i64 (i : Int)))] ?_
 refine xl_eqS (t' := [(8,.p 1 0),(9,.p 2 0),(10,.v (.int .i64 (W : Int))),(11,.v (.pointer (some ⟨gd,0,none⟩))),(12,.v (.pointer (some ⟨gh,0,none⟩))),(19,.p 3 0),(21,.v (.int .i64 (n2 : Int))),(22,.v (.int .i64 ((j : Int) + 1))),(23,.v (.int .i64 (i : Int)))]) (by rw [show (IntKind.i64.wrap ((j : Int) + 1)) = ((j : Int) + 1) from wrap_id (by omega) (by omega)]) ?_
 refine kED [8,9,10,11,12,19,21,22,23] [] ?_
 exact ⟨⟨(j + 1),⟨(by (try dsimp only); omega),run_more hij.1 hrun hy3 (by omega)⟩⟩,kF 4 0 [8,9,10,11,12,19,21,22,23],by show (fun (j : Nat) => W - j) (j + 1) < W - j; (dsimp only; omega)⟩
 have h23p := of_decide_eq_false h23
 have hy3p := of_decide_eq_false h23
 refine xw_exit ?_
 exact ⟨⟨(j),⟨(by first | omega | (have hne : i ≠ j := (fun e => (by subst e; rw [hy2] at hy3; simp only [Option.some.injEq] at hy3; omega)); omega)),hrun,(by first | exact fun z hz => by rw [hy3] at hz; simp only [Option.some.injEq] at hz; omega | exact fun z hz => by rw [hbe j (by omega) (by omega)] at hz; simp only [Option.some.injEq] at hz; omega)⟩⟩,kF 4 0 [8,9,10,11,12,19,21,22,23]⟩
 have h22p := of_decide_eq_false h22
 have hge6 : j = W := by simp at h22; omega
 refine kED [8,9,10,11,12,19,21,22,23,179] [(179,.v (.bool false))] ?_
 refine kN ?_
 refine xw_exit ?_
 exact ⟨⟨(j),⟨(by first | omega | (have hne : i ≠ j := (fun e => (by subst e; rw [hy2] at hy3; simp only [Option.some.injEq] at hy3; omega)); omega)),hrun,(by first | exact fun z hz => by rw [hy3] at hz; simp only [Option.some.injEq] at hz; omega | exact fun z hz => by rw [hbe j (by omega) (by omega)] at hz; simp only [Option.some.injEq] at hz; omega)⟩⟩,kF 4 0 [8,9,10,11,12,19,21,22,23]⟩
 rintro ⟨j,hij,hrun,hstop⟩
 try dsimp only
 try dsimp only at hij hrun hstop
 refine xw_joinE (α := Option Addr × Nat × Nat) (fun y => (fun (v27a : Option Addr) (v27c : Nat) (g25 : Nat) => (⟨[(8,.p 1 0),(9,.p 2 0),(10,.v (.int .i64 (W : Int))),(11,.v (.pointer (some ⟨gd,0,none⟩))),(12,.v (.pointer (some ⟨gh,0,none⟩))),(19,.p 3 0),(21,.v (.int .i64 (n2 : Int))),(22,.v (.int .i64 (j : Int)))],[⟨41,rcvL r (.slice Arh r.held.length Crh)⟩,⟨41,rcvZ⟩,⟨41,rcvL r (.slice v1a r.held.length v1c)⟩,⟨41,[.int .i64 (seqAdd r.next (n2 : Int)),.string (r.data ++ (bstr (sl.take n2))),.slice v27a ((out ++ ([⟨((i - n2 : Nat) : Int),bstr (((dtOf W sl).drop i).take (j - i))⟩] : List Pce)).length) v27c,.int .i64 fp,.bool r.done]⟩],[],[rowF w.heap.size 85 2 (.slice v27a ((out ++ ([⟨((i - n2 : Nat) : Int),bstr (((dtOf W sl).drop i).take (j - i))⟩] : List Pce)).length) v27c) ((out ++ ([⟨((i - n2 : Nat) : Int),bstr (((dtOf W sl).drop i).take (j - i))⟩] : List Pce)).map pceCells),rowF w.heap.size 85 2 (.slice (some ⟨g25,0,none⟩) 1 1) (([⟨((i - n2 : Nat) : Int),bstr (((dtOf W sl).drop i).take (j - i))⟩] : List Pce).map pceCells),cellF w.heap.size gh 122 [.slice (some ⟨g5,0,none⟩) W W],cellF w.heap.size gd 57 [.slice (some ⟨g4,0,none⟩) W W],rowF w.heap.size 4 1 (.slice (some ⟨g5,0,none⟩) W W) ((hvOf W sl).map boolRow),rowF w.heap.size 5 1 (.slice (some ⟨g4,0,none⟩) W W) ((dtOf W sl).map byteRow),ownF w.heap.size (.slice v1a r.held.length v1c) 2 (r.held.map pceCells),slF (.slice Arh r.held.length Crh) 2 (r.held.map pceCells)]⟩ : St)) y.1 y.2.1 y.2.2) ?_ ?_
 refine xe_region0 [true,true,true,false] (by kernel_rfl) (fun ρ σ => ?_)
 refine kTS [0,2,3,4,6,7] [189,188,186,182,8,9,10,11,12,19,21,22] 9 [(189,.v (.int .i64 (j : Int))),(188,.v (.int .i64 (i : Int))),(186,.v (.int .i64 (IntKind.i64.wrap ((i : Int) - (n2 : Int))))),(182,.p 3 2),(8,.p 1 0),(9,.p 2 0),(10,.v (.int .i64 (W : Int))),(11,.v (.pointer (some ⟨gd,0,none⟩))),(12,.v (.pointer (some ⟨gh,0,none⟩))),(19,.p 3 0),(21,.v (.int .i64 (n2 : Int))),(22,.v (.int .i64 (j : Int)))] ?_
 refine xe_eqS (t := [(189,.v (.int .i64 (j : Int))),(188,.v (.int .i64 (i : Int))),(186,.v (.int .i64 (IntKind.i64.wrap ((i : Int) - (n2 : Int))))),(182,.p 3 2),(8,.p 1 0),(9,.p 2 0),(10,.v (.int .i64 (W : Int))),(11,.v (.pointer (some ⟨gd,0,none⟩))),(12,.v (.pointer (some ⟨gh,0,none⟩))),(19,.p 3 0),(21,.v (.int .i64 (n2 : Int))),(22,.v (.int .i64 (j : Int)))]) (t' := [(189,.v (.int .i64 (j : Int))),(188,.v (.int .i64 (i : Int))),(186,.v (.int .i64 ((i - n2 : Nat) : Int))),(182,.p 3 2),(8,.p 1 0),(9,.p 2 0),(10,.v (.int .i64 (W : Int))),(11,.v (.pointer (some ⟨gd,0,none⟩))),(12,.v (.pointer (some ⟨gh,0,none⟩))),(19,.p 3 0),(21,.v (.int .i64 (n2 : Int))),(22,.v (.int .i64 (j : Int)))]) (by rw [show (IntKind.i64.wrap ((i : Int) - (n2 : Int))) = ((i - n2 : Nat) : Int) from by rw [wrap_id (by omega) (by omega)]; omega]) ?_
 refine kA [1,5] ⟨?_,?_⟩
 refine kSV 1 (.v (.slice A1 out.length c1)) rfl ?_
 refine kA [5] ?_
 refine kSR 5 (.slice (some ⟨g4,0,none⟩) W W) rfl (fun _ _ ww hr => ldP_run (off := 0) (B := w.heap.size) (g := gd) (T := 57) (cs := [.slice (some ⟨g4,0,none⟩) W W]) hr rfl (by kernel_rfl) (by simp) (by kernel_rfl)) ?_
 refine kA [8] ?_
 refine kSR 8 (.slice (if W = i then (some ⟨g4,0,none⟩ : Option Addr) else (some ⟨g4,0,none⟩ : Option Addr).map (·.add (i * 1))) (j - i) (W - i)) rfl (fun _ _ ww hr => act_slV (e := 5) (A := some ⟨g4,0,none⟩) (len := W) (cap := W) (K := 1) (k := .i64) (p' := (i : Int)) (k' := .i64) (q' := (j : Int)) i j hr.1 rfl (by kernel_rfl) (by kernel_rfl) (by kernel_rfl) (by kernel_rfl) (by kernel_rfl) rfl rfl (by omega) (Nat.le_trans (show j ≤ W by omega) (Sl.capLe (rowF_sl (hr.2.fact (rowF w.heap.size 5 1 (.slice (some ⟨g4,0,none⟩) W W) ((dtOf W sl).map byteRow)) (by simp)).1))) ww) ?_
 refine kA [9] ?_
 refine kSR 9 (.string (bstr (((dtOf W sl).drop i).take (j - i)))) rfl (fun _ _ ww hr => act_b2s (e := 5) (((dtOf W sl).drop i).take (j - i)) hr.1 rfl (by kernel_rfl) (by kernel_rfl) (by kernel_rfl) rfl (Sl.partM (rowF_sl (hr.2.fact (rowF w.heap.size 5 1 (.slice (some ⟨g4,0,none⟩) W W) ((dtOf W sl).map byteRow)) (by simp)).1) i j (by omega) (by omega))) ?_
 refine kX 10 (.agg (pceL (⟨((i - n2 : Nat) : Int),bstr (((dtOf W sl).drop i).take (j - i))⟩ : Pce)).toArray) rfl (fun _ _ ww hA => act_build [(0,.int .i64 ((i - n2 : Nat) : Int)),(1,.string (bstr (((dtOf W sl).drop i).take (j - i))))] hA rfl (by kernel_rfl) (by kernel_rfl) ww) ?_
 refine kA [11] ?_
 refine kSH 11 rfl (under_t (under_t (under_t (under_f rfl under_nil)))) (hv_build (e := 85) (K := 2) (bytes := 24) [.agg (pceL (⟨((i - n2 : Nat) : Int),bstr (((dtOf W sl).drop i).take (j - i))⟩ : Pce)).toArray] rfl (by kernel_rfl) (by kernel_rfl) (by kernel_rfl) (by kernel_rfl) (by kernel_rfl) (rs := ([⟨((i - n2 : Nat) : Int),bstr (((dtOf W sl).drop i).take (j - i))⟩] : List Pce).map pceCells) rfl) ?_
 intro g25
 refine kA [12] ?_
 refine kSH 12 rfl (under_t (under_t (under_t (under_f rfl under_nil)))) (hv_append (e := 85) (K := 2) (bytes := 24) (i := 1) (q := (out ++ ([⟨((i - n2 : Nat) : Int),bstr (((dtOf W sl).drop i).take (j - i))⟩] : List Pce)).length) (new := ([⟨((i - n2 : Nat) : Int),bstr (((dtOf W sl).drop i).take (j - i))⟩] : List Pce).map pceCells) (rs' := (out ++ ([⟨((i - n2 : Nat) : Int),bstr (((dtOf W sl).drop i).take (j - i))⟩] : List Pce)).map pceCells) rfl rfl rfl rfl (by kernel_rfl) (by kernel_rfl) (by kernel_rfl) rfl (by first | (simp; done) | (simp; omega)) (by rw [List.map_append]) (by first | (simp; done) | (simp; omega)) (fun ww hf => (rowF_sl (hf (rowF w.heap.size 85 2 (.slice (some ⟨g25,0,none⟩) 1 1) (([⟨((i - n2 : Nat) : Int),bstr (((dtOf W sl).drop i).take (j - i))⟩] : List Pce).map pceCells)) (by simp)))) (by intro r hr; obtain ⟨x,hx,rfl⟩ := List.mem_map.1 hr; exact ⟨rfl,by simp [pceCells,Value.oneCell']⟩) (by (try simp only [List.length_map,List.length_append,List.length_cons,List.length_nil,List.length_take,List.length_drop,maxLen]); omega) (by (try simp only [List.length_map,List.length_append,List.length_cons,List.length_nil,List.length_take,List.length_drop,maxLen]); omega)) ?_
 rintro ⟨v27a,v27c⟩
 refine kTS [13] [195,194,8,9,10,11,12,19,21,22] 1 [(195,.p 3 2),(194,.v (.slice v27a ((out ++ ([⟨((i - n2 : Nat) : Int),bstr (((dtOf W sl).drop i).take (j - i))⟩] : List Pce)).length) v27c)),(8,.p 1 0),(9,.p 2 0),(10,.v (.int .i64 (W : Int))),(11,.v (.pointer (some ⟨gd,0,none⟩))),(12,.v (.pointer (some ⟨gh,0,none⟩))),(19,.p 3 0),(21,.v (.int .i64 (n2 : Int))),(22,.v (.int .i64 (j : Int)))] ?_
 refine kA [14] ?_
 refine kSS 14 3 2 [.slice v27a ((out ++ ([⟨((i - n2 : Nat) : Int),bstr (((dtOf W sl).drop i).take (j - i))⟩] : List Pce)).length) v27c] rfl ?_
 refine kZ ?_
 exact ⟨(v27a,v27c,g25),kF 4 0 [8,9,10,11,12,19,21,22]⟩
 refine kSR 5 (.slice (some ⟨g4,0,none⟩) W W) rfl (fun _ _ ww hr => ldP_run (off := 0) (B := w.heap.size) (g := gd) (T := 57) (cs := [.slice (some ⟨g4,0,none⟩) W W]) hr rfl (by kernel_rfl) (by simp) (by kernel_rfl)) ?_
 refine kA [1,8] ⟨?_,?_⟩
 refine kSV 1 (.v (.slice A1 out.length c1)) rfl ?_
 refine kA [8] ?_
 refine kSR 8 (.slice (if W = i then (some ⟨g4,0,none⟩ : Option Addr) else (some ⟨g4,0,none⟩ : Option Addr).map (·.add (i * 1))) (j - i) (W - i)) rfl (fun _ _ ww hr => act_slV (e := 5) (A := some ⟨g4,0,none⟩) (len := W) (cap := W) (K := 1) (k := .i64) (p' := (i : Int)) (k' := .i64) (q' := (j : Int)) i j hr.1 rfl (by kernel_rfl) (by kernel_rfl) (by kernel_rfl) (by kernel_rfl) (by kernel_rfl) rfl rfl (by omega) (Nat.le_trans (show j ≤ W by omega) (Sl.capLe (rowF_sl (hr.2.fact (rowF w.heap.size 5 1 (.slice (some ⟨g4,0,none⟩) W W) ((dtOf W sl).map byteRow)) (by simp)).1))) ww) ?_
 refine kA [9] ?_
 refine kSR 9 (.string (bstr (((dtOf W sl).drop i).take (j - i)))) rfl (fun _ _ ww hr => act_b2s (e := 5) (((dtOf W sl).drop i).take (j - i)) hr.1 rfl (by kernel_rfl) (by kernel_rfl) (by kernel_rfl) rfl (Sl.partM (rowF_sl (hr.2.fact (rowF w.heap.size 5 1 (.slice (some ⟨g4,0,none⟩) W W) ((dtOf W sl).map byteRow)) (by simp)).1) i j (by omega) (by omega))) ?_
 refine kX 10 (.agg (pceL (⟨((i - n2 : Nat) : Int),bstr (((dtOf W sl).drop i).take (j - i))⟩ : Pce)).toArray) rfl (fun _ _ ww hA => act_build [(0,.int .i64 ((i - n2 : Nat) : Int)),(1,.string (bstr (((dtOf W sl).drop i).take (j - i))))] hA rfl (by kernel_rfl) (by kernel_rfl) ww) ?_
 refine kA [11] ?_
 refine kSH 11 rfl (under_t (under_t (under_t (under_f rfl under_nil)))) (hv_build (e := 85) (K := 2) (bytes := 24) [.agg (pceL (⟨((i - n2 : Nat) : Int),bstr (((dtOf W sl).drop i).take (j - i))⟩ : Pce)).toArray] rfl (by kernel_rfl) (by kernel_rfl) (by kernel_rfl) (by kernel_rfl) (by kernel_rfl) (rs := ([⟨((i - n2 : Nat) : Int),bstr (((dtOf W sl).drop i).take (j - i))⟩] : List Pce).map pceCells) rfl) ?_
 intro g29
 refine kA [12] ?_
 refine kSH 12 rfl (under_t (under_t (under_t (under_f rfl under_nil)))) (hv_append (e := 85) (K := 2) (bytes := 24) (i := 1) (q := (out ++ ([⟨((i - n2 : Nat) : Int),bstr (((dtOf W sl).drop i).take (j - i))⟩] : List Pce)).length) (new := ([⟨((i - n2 : Nat) : Int),bstr (((dtOf W sl).drop i).take (j - i))⟩] : List Pce).map pceCells) (rs' := (out ++ ([⟨((i - n2 : Nat) : Int),bstr (((dtOf W sl).drop i).take (j - i))⟩] : List Pce)).map pceCells) rfl rfl rfl rfl (by kernel_rfl) (by kernel_rfl) (by kernel_rfl) rfl (by first | (simp; done) | (simp; omega)) (by rw [List.map_append]) (by first | (simp; done) | (simp; omega)) (fun ww hf => (rowF_sl (hf (rowF w.heap.size 85 2 (.slice (some ⟨g29,0,none⟩) 1 1) (([⟨((i - n2 : Nat) : Int),bstr (((dtOf W sl).drop i).take (j - i))⟩] : List Pce).map pceCells)) (by simp)))) (by intro r hr; obtain ⟨x,hx,rfl⟩ := List.mem_map.1 hr; exact ⟨rfl,by simp [pceCells,Value.oneCell']⟩) (by (try simp only [List.length_map,List.length_append,List.length_cons,List.length_nil,List.length_take,List.length_drop,maxLen]); omega) (by (try simp only [List.length_map,List.length_append,List.length_cons,List.length_nil,List.length_take,List.length_drop,maxLen]); omega)) ?_
 rintro ⟨v31a,v31c⟩
 refine kTS [13] [195,194,8,9,10,11,12,19,21,22] 1 [(195,.p 3 2),(194,.v (.slice v31a ((out ++ ([⟨((i - n2 : Nat) : Int),bstr (((dtOf W sl).drop i).take (j - i))⟩] : List Pce)).length) v31c)),(8,.p 1 0),(9,.p 2 0),(10,.v (.int .i64 (W : Int))),(11,.v (.pointer (some ⟨gd,0,none⟩))),(12,.v (.pointer (some ⟨gh,0,none⟩))),(19,.p 3 0),(21,.v (.int .i64 (n2 : Int))),(22,.v (.int .i64 (j : Int)))] ?_
 refine kA [14] ?_
 refine kSS 14 3 2 [.slice v31a ((out ++ ([⟨((i - n2 : Nat) : Int),bstr (((dtOf W sl).drop i).take (j - i))⟩] : List Pce)).length) v31c] rfl ?_
 refine kZ ?_
 exact ⟨(v31a,v31c,g29),kF 4 0 [8,9,10,11,12,19,21,22]⟩
 refine kSR 8 (.slice (if W = i then (some ⟨g4,0,none⟩ : Option Addr) else (some ⟨g4,0,none⟩ : Option Addr).map (·.add (i * 1))) (j - i) (W - i)) rfl (fun _ _ ww hr => act_slV (e := 5) (A := some ⟨g4,0,none⟩) (len := W) (cap := W) (K := 1) (k := .i64) (p' := (i : Int)) (k' := .i64) (q' := (j : Int)) i j hr.1 rfl (by kernel_rfl) (by kernel_rfl) (by kernel_rfl) (by kernel_rfl) (by kernel_rfl) rfl rfl (by omega) (Nat.le_trans (show j ≤ W by omega) (Sl.capLe (rowF_sl (hr.2.fact (rowF w.heap.size 5 1 (.slice (some ⟨g4,0,none⟩) W W) ((dtOf W sl).map byteRow)) (by simp)).1))) ww) ?_
 refine kA [1,9] ⟨?_,?_⟩
 refine kSV 1 (.v (.slice A1 out.length c1)) rfl ?_
 refine kA [9] ?_
 refine kSR 9 (.string (bstr (((dtOf W sl).drop i).take (j - i)))) rfl (fun _ _ ww hr => act_b2s (e := 5) (((dtOf W sl).drop i).take (j - i)) hr.1 rfl (by kernel_rfl) (by kernel_rfl) (by kernel_rfl) rfl (Sl.partM (rowF_sl (hr.2.fact (rowF w.heap.size 5 1 (.slice (some ⟨g4,0,none⟩) W W) ((dtOf W sl).map byteRow)) (by simp)).1) i j (by omega) (by omega))) ?_
 refine kX 10 (.agg (pceL (⟨((i - n2 : Nat) : Int),bstr (((dtOf W sl).drop i).take (j - i))⟩ : Pce)).toArray) rfl (fun _ _ ww hA => act_build [(0,.int .i64 ((i - n2 : Nat) : Int)),(1,.string (bstr (((dtOf W sl).drop i).take (j - i))))] hA rfl (by kernel_rfl) (by kernel_rfl) ww) ?_
 refine kA [11] ?_
 refine kSH 11 rfl (under_t (under_t (under_t (under_f rfl under_nil)))) (hv_build (e := 85) (K := 2) (bytes := 24) [.agg (pceL (⟨((i - n2 : Nat) : Int),bstr (((dtOf W sl).drop i).take (j - i))⟩ : Pce)).toArray] rfl (by kernel_rfl) (by kernel_rfl) (by kernel_rfl) (by kernel_rfl) (by kernel_rfl) (rs := ([⟨((i - n2 : Nat) : Int),bstr (((dtOf W sl).drop i).take (j - i))⟩] : List Pce).map pceCells) rfl) ?_
 intro g33
 refine kA [12] ?_
 refine kSH 12 rfl (under_t (under_t (under_t (under_f rfl under_nil)))) (hv_append (e := 85) (K := 2) (bytes := 24) (i := 1) (q := (out ++ ([⟨((i - n2 : Nat) : Int),bstr (((dtOf W sl).drop i).take (j - i))⟩] : List Pce)).length) (new := ([⟨((i - n2 : Nat) : Int),bstr (((dtOf W sl).drop i).take (j - i))⟩] : List Pce).map pceCells) (rs' := (out ++ ([⟨((i - n2 : Nat) : Int),bstr (((dtOf W sl).drop i).take (j - i))⟩] : List Pce)).map pceCells) rfl rfl rfl rfl (by kernel_rfl) (by kernel_rfl) (by kernel_rfl) rfl (by first | (simp; done) | (simp; omega)) (by rw [List.map_append]) (by first | (simp; done) | (simp; omega)) (fun ww hf => (rowF_sl (hf (rowF w.heap.size 85 2 (.slice (some ⟨g33,0,none⟩) 1 1) (([⟨((i - n2 : Nat) : Int),bstr (((dtOf W sl).drop i).take (j - i))⟩] : List Pce).map pceCells)) (by simp)))) (by intro r hr; obtain ⟨x,hx,rfl⟩ := List.mem_map.1 hr; exact ⟨rfl,by simp [pceCells,Value.oneCell']⟩) (by (try simp only [List.length_map,List.length_append,List.length_cons,List.length_nil,List.length_take,List.length_drop,maxLen]); omega) (by (try simp only [List.length_map,List.length_append,List.length_cons,List.length_nil,List.length_take,List.length_drop,maxLen]); omega)) ?_
 rintro ⟨v35a,v35c⟩
 refine kTS [13] [195,194,8,9,10,11,12,19,21,22] 1 [(195,.p 3 2),(194,.v (.slice v35a ((out ++ ([⟨((i - n2 : Nat) : Int),bstr (((dtOf W sl).drop i).take (j - i))⟩] : List Pce)).length) v35c)),(8,.p 1 0),(9,.p 2 0),(10,.v (.int .i64 (W : Int))),(11,.v (.pointer (some ⟨gd,0,none⟩))),(12,.v (.pointer (some ⟨gh,0,none⟩))),(19,.p 3 0),(21,.v (.int .i64 (n2 : Int))),(22,.v (.int .i64 (j : Int)))] ?_
 refine kA [14] ?_
 refine kSS 14 3 2 [.slice v35a ((out ++ ([⟨((i - n2 : Nat) : Int),bstr (((dtOf W sl).drop i).take (j - i))⟩] : List Pce)).length) v35c] rfl ?_
 refine kZ ?_
 exact ⟨(v35a,v35c,g33),kF 4 0 [8,9,10,11,12,19,21,22]⟩
 refine kSR 9 (.string (bstr (((dtOf W sl).drop i).take (j - i)))) rfl (fun _ _ ww hr => act_b2s (e := 5) (((dtOf W sl).drop i).take (j - i)) hr.1 rfl (by kernel_rfl) (by kernel_rfl) (by kernel_rfl) rfl (Sl.partM (rowF_sl (hr.2.fact (rowF w.heap.size 5 1 (.slice (some ⟨g4,0,none⟩) W W) ((dtOf W sl).map byteRow)) (by simp)).1) i j (by omega) (by omega))) ?_
 refine kX 10 (.agg (pceL (⟨((i - n2 : Nat) : Int),bstr (((dtOf W sl).drop i).take (j - i))⟩ : Pce)).toArray) rfl (fun _ _ ww hA => act_build [(0,.int .i64 ((i - n2 : Nat) : Int)),(1,.string (bstr (((dtOf W sl).drop i).take (j - i))))] hA rfl (by kernel_rfl) (by kernel_rfl) ww) ?_
 refine kA [1,11] ⟨?_,?_⟩
 refine kSV 1 (.v (.slice A1 out.length c1)) rfl ?_
 refine kA [11] ?_
 refine kSH 11 rfl (under_t (under_t (under_t (under_f rfl under_nil)))) (hv_build (e := 85) (K := 2) (bytes := 24) [.agg (pceL (⟨((i - n2 : Nat) : Int),bstr (((dtOf W sl).drop i).take (j - i))⟩ : Pce)).toArray] rfl (by kernel_rfl) (by kernel_rfl) (by kernel_rfl) (by kernel_rfl) (by kernel_rfl) (rs := ([⟨((i - n2 : Nat) : Int),bstr (((dtOf W sl).drop i).take (j - i))⟩] : List Pce).map pceCells) rfl) ?_
 intro g38
 refine kA [12] ?_
 refine kSH 12 rfl (under_t (under_t (under_t (under_f rfl under_nil)))) (hv_append (e := 85) (K := 2) (bytes := 24) (i := 1) (q := (out ++ ([⟨((i - n2 : Nat) : Int),bstr (((dtOf W sl).drop i).take (j - i))⟩] : List Pce)).length) (new := ([⟨((i - n2 : Nat) : Int),bstr (((dtOf W sl).drop i).take (j - i))⟩] : List Pce).map pceCells) (rs' := (out ++ ([⟨((i - n2 : Nat) : Int),bstr (((dtOf W sl).drop i).take (j - i))⟩] : List Pce)).map pceCells) rfl rfl rfl rfl (by kernel_rfl) (by kernel_rfl) (by kernel_rfl) rfl (by first | (simp; done) | (simp; omega)) (by rw [List.map_append]) (by first | (simp; done) | (simp; omega)) (fun ww hf => (rowF_sl (hf (rowF w.heap.size 85 2 (.slice (some ⟨g38,0,none⟩) 1 1) (([⟨((i - n2 : Nat) : Int),bstr (((dtOf W sl).drop i).take (j - i))⟩] : List Pce).map pceCells)) (by simp)))) (by intro r hr; obtain ⟨x,hx,rfl⟩ := List.mem_map.1 hr; exact ⟨rfl,by simp [pceCells,Value.oneCell']⟩) (by (try simp only [List.length_map,List.length_append,List.length_cons,List.length_nil,List.length_take,List.length_drop,maxLen]); omega) (by (try simp only [List.length_map,List.length_append,List.length_cons,List.length_nil,List.length_take,List.length_drop,maxLen]); omega)) ?_
 rintro ⟨v40a,v40c⟩
 refine kTS [13] [195,194,8,9,10,11,12,19,21,22] 1 [(195,.p 3 2),(194,.v (.slice v40a ((out ++ ([⟨((i - n2 : Nat) : Int),bstr (((dtOf W sl).drop i).take (j - i))⟩] : List Pce)).length) v40c)),(8,.p 1 0),(9,.p 2 0),(10,.v (.int .i64 (W : Int))),(11,.v (.pointer (some ⟨gd,0,none⟩))),(12,.v (.pointer (some ⟨gh,0,none⟩))),(19,.p 3 0),(21,.v (.int .i64 (n2 : Int))),(22,.v (.int .i64 (j : Int)))] ?_
 refine kA [14] ?_
 refine kSS 14 3 2 [.slice v40a ((out ++ ([⟨((i - n2 : Nat) : Int),bstr (((dtOf W sl).drop i).take (j - i))⟩] : List Pce)).length) v40c] rfl ?_
 refine kZ ?_
 exact ⟨(v40a,v40c,g38),kF 4 0 [8,9,10,11,12,19,21,22]⟩
 refine kSH 11 rfl (under_t (under_t (under_t (under_f rfl under_nil)))) (hv_build (e := 85) (K := 2) (bytes := 24) [.agg (pceL (⟨((i - n2 : Nat) : Int),bstr (((dtOf W sl).drop i).take (j - i))⟩ : Pce)).toArray] rfl (by kernel_rfl) (by kernel_rfl) (by kernel_rfl) (by kernel_rfl) (by kernel_rfl) (rs := ([⟨((i - n2 : Nat) : Int),bstr (((dtOf W sl).drop i).take (j - i))⟩] : List Pce).map pceCells) rfl) ?_
 intro g41
 refine kA [1] ?_
 refine kSV 1 (.v (.slice A1 out.length c1)) rfl ?_
 refine kA [12] ?_
 refine kSH 12 rfl (under_t (under_t (under_t (under_f rfl under_nil)))) (hv_append (e := 85) (K := 2) (bytes := 24) (i := 1) (q := (out ++ ([⟨((i - n2 : Nat) : Int),bstr (((dtOf W sl).drop i).take (j - i))⟩] : List Pce)).length) (new := ([⟨((i - n2 : Nat) : Int),bstr (((dtOf W sl).drop i).take (j - i))⟩] : List Pce).map pceCells) (rs' := (out ++ ([⟨((i - n2 : Nat) : Int),bstr (((dtOf W sl).drop i).take (j - i))⟩] : List Pce)).map pceCells) rfl rfl rfl rfl (by kernel_rfl) (by kernel_rfl) (by kernel_rfl) rfl (by first | (simp; done) | (simp; omega)) (by rw [List.map_append]) (by first | (simp; done) | (simp; omega)) (fun ww hf => (rowF_sl (hf (rowF w.heap.size 85 2 (.slice (some ⟨g41,0,none⟩) 1 1) (([⟨((i - n2 : Nat) : Int),bstr (((dtOf W sl).drop i).take (j - i))⟩] : List Pce).map pceCells)) (by simp)))) (by intro r hr; obtain ⟨x,hx,rfl⟩ := List.mem_map.1 hr; exact ⟨rfl,by simp [pceCells,Value.oneCell']⟩) (by (try simp only [List.length_map,List.length_append,List.length_cons,List.length_nil,List.length_take,List.length_drop,maxLen]); omega) (by (try simp only [List.length_map,List.length_append,List.length_cons,List.length_nil,List.length_take,List.length_drop,maxLen]); omega)) ?_
 rintro ⟨v43a,v43c⟩
 refine kTS [13] [195,194,8,9,10,11,12,19,21,22] 1 [(195,.p 3 2),(194,.v (.slice v43a ((out ++ ([⟨((i - n2 : Nat) : Int),bstr (((dtOf W sl).drop i).take (j - i))⟩] : List Pce)).length) v43c)),(8,.p 1 0),(9,.p 2 0),(10,.v (.int .i64 (W : Int))),(11,.v (.pointer (some ⟨gd,0,none⟩))),(12,.v (.pointer (some ⟨gh,0,none⟩))),(19,.p 3 0),(21,.v (.int .i64 (n2 : Int))),(22,.v (.int .i64 (j : Int)))] ?_
 refine kA [14] ?_
 refine kSS 14 3 2 [.slice v43a ((out ++ ([⟨((i - n2 : Nat) : Int),bstr (((dtOf W sl).drop i).take (j - i))⟩] : List Pce)).length) v43c] rfl ?_
 refine kZ ?_
 exact ⟨(v43a,v43c,g41),kF 4 0 [8,9,10,11,12,19,21,22]⟩
 rintro ⟨v27a,v27c,g25⟩
 exact ⟨⟨(j,(out ++ ([⟨((i - n2 : Nat) : Int),bstr (((dtOf W sl).drop i).take (j - i))⟩] : List Pce)),v27a,v27c),⟨(by (try dsimp only); omega),(by rw [dt_part (by omega) hrun,HP]; exact pcs_piece (by omega) hij.1 (by omega) hrun (htc y2 hy2 (by omega))),(bd_more hbd (by omega) (by rw [bstr_size,List.length_take,List.length_drop,dtOf_len (by omega)]; omega)),(fun x hx h0 => by have := hstop x hx; omega),(by (try dsimp only); (try simp only [List.length_append,List.length_cons,List.length_nil]); omega)⟩⟩,(wk_pick [0,2,3,4,5,6,7] [rowF w.heap.size 85 2 (.slice v27a ((out ++ ([⟨((i - n2 : Nat) : Int),bstr (((dtOf W sl).drop i).take (j - i))⟩] : List Pce)).length) v27c) ((out ++ ([⟨((i - n2 : Nat) : Int),bstr (((dtOf W sl).drop i).take (j - i))⟩] : List Pce)).map pceCells),cellF w.heap.size gh 122 [.slice (some ⟨g5,0,none⟩) W W],cellF w.heap.size gd 57 [.slice (some ⟨g4,0,none⟩) W W],rowF w.heap.size 4 1 (.slice (some ⟨g5,0,none⟩) W W) ((hvOf W sl).map boolRow),rowF w.heap.size 5 1 (.slice (some ⟨g4,0,none⟩) W W) ((dtOf W sl).map byteRow),ownF w.heap.size (.slice v1a r.held.length v1c) 2 (r.held.map pceCells),slF (.slice Arh r.held.length Crh) 2 (r.held.map pceCells)] (by kernel_rfl) (by kernel_rfl)).trans <| kF 4 0 [8,9,10,11,12,19,21,22],by show (fun (i : Nat) (out : List Pce) (A1 : Option Addr) (c1 : Nat) => W - i) j (out ++ ([⟨((i - n2 : Nat) : Int),bstr (((dtOf W sl).drop i).take (j - i))⟩] : List Pce)) v27a v27c < W - i; (dsimp only; omega)⟩
 have h20p := of_decide_eq_false h20
 have hge5 : i = W := by simp at h20; omega
 have hpc : pcs [] 0 (sl.drop n2) = out := by rw [HP,hge5]; exact pcs_neg out _ _ (beyond_neg hbe hl)
 refine xw_exit ?_
 refine kS ?_
 refine kQ ?_
 refine kED [8,9,19,199] [(199,.v (.bool (decide (((out.length : Nat) : Int) > 3))))] ?_
 refine kC (decide (((out.length : Nat) : Int) > 3)) (fun h44 => ?_) (fun h44 => ?_)
 have h44p := of_decide_eq_true h44
 refine kQ ?_
 refine kEU [8] [(8,.p 1 0)] 1 ⟨41,rcvL r (.slice v1a r.held.length v1c)⟩ ?_
 refine kR ?_
 have hmod : arrived r seq text fin = r := by first | exact arrived_over hrk (by assumption) (by rw [← hall,← hnf,hpc]; omega) | (unfold arrived; rw [if_neg (by grind)]; done) | (unfold arrived; rw [if_pos (by grind),← hall,← hnf,hpc,← hfp]; first | (rw [if_pos (by omega)]; done) | (rw [if_neg (by omega),if_pos (by first | omega | simp_all)]; done) | (rw [if_neg (by omega),if_neg (by first | omega | simp_all)]; done))
 exact ⟨[.agg (rcvL r (.slice v1a r.held.length v1c)).toArray],by kernel_rfl,fun w' hb hf ha => by rw [hmod]; exact xo1 ((v1a,v1c)) rfl rfl (pO (hf _ m5) hB) hb⟩
 have h44p := of_decide_eq_false h44
 refine kK ?_
 refine kS ?_
 refine kQ ?_
 refine kED [8,19,203] [(203,.v (.bool (fp == 0)))] ?_
 refine kC (fp == 0) (fun h45 => ?_) (fun h45 => ?_)
 have h45p := eqT h45
 refine kQ ?_
 refine kEU [8,19] [] 3 ⟨41,[.int .i64 (seqAdd r.next (n2 : Int)),.string (r.data ++ (bstr (sl.take n2))),.slice A1 out.length c1,.int .i64 fp,.bool true]⟩ ?_
 refine kQ ?_
 refine kEU [8,19] [] 3 ⟨41,[.int .i64 (seqAdd r.next (n2 : Int)),.string (r.data ++ (bstr (sl.take n2))),.slice A1 out.length c1,.int .i64 (-1),.bool true]⟩ ?_
 refine kG ?_
 refine kCD 2 [8,19,207] [(207,.v (.int .i64 (seqAdd r.next (n2 : Int))))] 115 [.int .i64 (seqAdd r.next (n2 : Int)),.int .i64 1] (some 208) rfl (xc_s fun ww hf => iSeqAdd_c (seqAdd r.next (n2 : Int)) 1 ww ) ?_
 intro _
 refine kEF [8,19] ⟨[(8,.p 1 0),(19,.p 3 0)],[⟨41,rcvL r (.slice Arh r.held.length Crh)⟩,⟨41,rcvZ⟩,⟨41,rcvL r (.slice v1a r.held.length v1c)⟩,⟨41,[.int .i64 (seqAdd (seqAdd r.next (n2 : Int)) 1),.string (r.data ++ (bstr (sl.take n2))),.slice A1 out.length c1,.int .i64 (-1),.bool true]⟩],[],[rowF w.heap.size 85 2 (.slice A1 out.length c1) (out.map pceCells),cellF w.heap.size gh 122 [.slice (some ⟨g5,0,none⟩) W W],cellF w.heap.size gd 57 [.slice (some ⟨g4,0,none⟩) W W],rowF w.heap.size 4 1 (.slice (some ⟨g5,0,none⟩) W W) ((hvOf W sl).map boolRow),rowF w.heap.size 5 1 (.slice (some ⟨g4,0,none⟩) W W) ((dtOf W sl).map byteRow),ownF w.heap.size (.slice v1a r.held.length v1c) 2 (r.held.map pceCells),slF (.slice Arh r.held.length Crh) 2 (r.held.map pceCells)]⟩ ?_
 refine kQ ?_
 refine kEU [8] [(8,.p 1 0)] 1 ⟨41,[.int .i64 (seqAdd (seqAdd r.next (n2 : Int)) 1),.string (r.data ++ (bstr (sl.take n2))),.slice A1 out.length c1,.int .i64 (-1),.bool true]⟩ ?_
 refine kR ?_
 have hmod : arrived r seq text fin = (⟨seqAdd (seqAdd r.next (n2 : Int)) 1,r.data ++ (bstr (sl.take n2)),out,(-1),true⟩) := by first | exact arrived_over hrk (by assumption) (by rw [← hall,← hnf,hpc]; omega) | (unfold arrived; rw [if_neg (by grind)]; done) | (unfold arrived; rw [if_pos (by grind),← hall,← hnf,hpc,← hfp]; first | (rw [if_pos (by omega)]; done) | (rw [if_neg (by omega),if_pos (by first | omega | simp_all)]; done) | (rw [if_neg (by omega),if_neg (by first | omega | simp_all)]; done))
 exact ⟨[.agg #[.int .i64 (seqAdd (seqAdd r.next (n2 : Int)) 1),.string (r.data ++ (bstr (sl.take n2))),.slice A1 out.length c1,.int .i64 (-1),.bool true]],by kernel_rfl,fun w' hb hf ha => by rw [hmod]; exact xo1 ((A1,c1)) rfl rfl (pR (hf _ m0) hB) hb⟩
 have h45p := eqF h45
 refine kK ?_
 refine kQ ?_
 refine kEU [8] [(8,.p 1 0)] 1 ⟨41,[.int .i64 (seqAdd r.next (n2 : Int)),.string (r.data ++ (bstr (sl.take n2))),.slice A1 out.length c1,.int .i64 fp,.bool r.done]⟩ ?_
 refine kR ?_
 have hmod : arrived r seq text fin = (⟨seqAdd r.next (n2 : Int),r.data ++ (bstr (sl.take n2)),out,fp,r.done⟩) := by first | exact arrived_over hrk (by assumption) (by rw [← hall,← hnf,hpc]; omega) | (unfold arrived; rw [if_neg (by grind)]; done) | (unfold arrived; rw [if_pos (by grind),← hall,← hnf,hpc,← hfp]; first | (rw [if_pos (by omega)]; done) | (rw [if_neg (by omega),if_pos (by first | omega | simp_all)]; done) | (rw [if_neg (by omega),if_neg (by first | omega | simp_all)]; done))
 exact ⟨[.agg #[.int .i64 (seqAdd r.next (n2 : Int)),.string (r.data ++ (bstr (sl.take n2))),.slice A1 out.length c1,.int .i64 fp,.bool r.done]],by kernel_rfl,fun w' hb hf ha => by rw [hmod]; exact xo1 ((A1,c1)) rfl rfl (pR (hf _ m0) hB) hb⟩
theorem yiHeard_c (c : Con) (c_r_heldV : Value) (g : Seg) (w : World) (hl_c_r_heldV : Sl w c_r_heldV 2 (c.r.held.map pceCells)) (hkn : c.r.held.length ≤ 1048576)(hgz : g.body.size ≤ 1048576) (hm : ∀ p ∈ c.r.held, p.text.size ≤ 1048576) (hsz : c.r.data.size ≤ 4611686018427387904) (B : Nat) (hB : B ≤ w.heap.size) : Calls Tryz.prog 27 #[.agg (conL c c_r_heldV).toArray, .agg (segL g).toArray] w fun e w' => XRs w w' e (α := Option Addr × Nat) (fun y => .agg (conL (heard c g) (.slice y.1 ((heard c g).r.held.length) y.2)).toArray) (fun y => [ownF B (.slice y.1 ((heard c g).r.held.length) y.2) 2 ((heard c g).r.held.map pceCells)]) := by
 obtain ⟨Acrh,Ccrh,hvcrh⟩ := hl_c_r_heldV.form
 rw [List.length_map] at hvcrh; subst hvcrh
 have hncrh := hl_c_r_heldV.len; rw [List.length_map] at hncrh
 have hqcrh := Sl.capLe hl_c_r_heldV
 refine x_callsA (args := [.agg (conL c (.slice Acrh c.r.held.length Ccrh)).toArray,.agg (segL g).toArray]) (fn := Tryz.f27) [slF (.slice Acrh c.r.held.length Ccrh) 2 (c.r.held.map pceCells)] Tryz.func27 rfl Tryz.ntmps27 rfl (by simp only [List.mem_cons,List.not_mem_nil,or_false,forall_eq_or_imp,forall_eq]; exact ⟨rfl,hl_c_r_heldV⟩) ?_
 refine kQ ?_
 refine kEF [2,3,4] ⟨[(2,.p 0 0),(3,.p 1 0),(4,.p 2 0)],[⟨44,conL c (.slice Acrh c.r.held.length Ccrh)⟩,⟨50,segL g⟩,⟨44,conZ⟩],[],[slF (.slice Acrh c.r.held.length Ccrh) 2 (c.r.held.map pceCells)]⟩ ?_
 refine kS ?_
 refine kQ ?_
 refine kCD 2 [2,3,4,8,9] [(8,.v (.agg (conL c (.slice Acrh c.r.held.length Ccrh)).toArray)),(9,.v (.agg (segL g).toArray))] 42 [.agg (conL c (.slice Acrh c.r.held.length Ccrh)).toArray,.agg (segL g).toArray] (some 10) rfl (xc_b fun ww hf => yiVerdict_c c (.slice Acrh c.r.held.length Ccrh) g ww (hf _ m0) (by omega) (by assumption) (by omega)) ?_
 intro _
 refine kED [2,3,4,11] [(11,.v (.bool ((verdict c g) != 5)))] ?_
 refine kC ((verdict c g) != 5) (fun h1 => ?_) (fun h1 => ?_)
 have h1p := neT h1
 have hv5 : ¬ verdict c g = 5 := by simpa using h1
 refine kQ ?_
 refine kCD 1 [4,12] [(12,.v (.agg (conL c (.slice Acrh c.r.held.length Ccrh)).toArray))] 43 [.agg (conL c (.slice Acrh c.r.held.length Ccrh)).toArray] (some 13) rfl (xc_r fun ww hw hf => ycloneConn_c c (.slice Acrh c.r.held.length Ccrh) ww (hf _ m0) (by assumption) w.heap.size hw) ?_
 rintro ⟨v2a,v2c⟩
 refine kEU [4] [(4,.p 2 0)] 2 ⟨44,conL c (.slice v2a c.r.held.length v2c)⟩ ?_
 refine kR ?_
 have hmod : heard c g = c := by first | (unfold heard; rw [if_pos hv5,← hm5]; unfold heardR; rw [if_pos (by assumption)]; done) | (unfold heard; rw [if_pos hv5,← hm5]; unfold heardR; rw [if_pos (by unfold inB; simp [*]; done)]; done) | (unfold heard; rw [if_pos hv5,← hm5]; unfold heardR; rw [if_neg (by unfold inB; simp; omega),← hmr]; done) | (unfold heard; rw [if_neg hv5]; done)
 exact ⟨[.agg (conL c (.slice v2a c.r.held.length v2c)).toArray],by kernel_rfl,fun w' hb hf ha => by rw [hmod]; exact xo1 ((v2a,v2c)) rfl rfl (pO (hf _ m0) hB) hb⟩
 have h1p := neF h1
 have hv5 : verdict c g = 5 := by simpa using h1
 obtain ⟨hc1,hc2,hc3,-⟩ := verdict_fine hv5
 have hgw := segmentOk_w hc3
 have hsc := optionsOk_bd (conOk_r hc1).2.1
 have hfw := farW_bd hgw (conOk_r hc1).2.1
 refine kK ?_
 refine kQ ?_
 refine kCD 1 [2,3,4,14] [(14,.v (.agg (conL c (.slice Acrh c.r.held.length Ccrh)).toArray))] 43 [.agg (conL c (.slice Acrh c.r.held.length Ccrh)).toArray] (some 15) rfl (xc_r fun ww hw hf => ycloneConn_c c (.slice Acrh c.r.held.length Ccrh) ww (hf _ m0) (by assumption) w.heap.size hw) ?_
 rintro ⟨v3a,v3c⟩
 refine kEA [2,3,4,5] [(5,.p 3 0)] [⟨44,conL c (.slice v3a c.r.held.length v3c)⟩] ?_
 refine kS ?_
 refine xw_joinF (α := {zz : Con // (fun (m : Con) => m = heardMid c g) zz}) (fun zz => (fun (m : Con) => (⟨[(2,.p 0 0),(3,.p 1 0),(4,.p 2 0),(5,.p 3 0)],[⟨44,conL c (.slice Acrh c.r.held.length Ccrh)⟩,⟨50,segL g⟩,⟨44,conZ⟩,⟨44,conL m (.slice v3a m.r.held.length v3c)⟩],[],[ownF w.heap.size (.slice v3a m.r.held.length v3c) 2 (m.r.held.map pceCells),slF (.slice Acrh c.r.held.length Ccrh) 2 (c.r.held.map pceCells)]⟩ : St)) zz.1) ?_ ?_
 refine kQ ?_
 refine kCD 4 [2,3,4,5,18,20] [(18,.v (.agg (sndL c.s).toArray)),(20,.v (.int .i64 g.ack))] 69 [.agg (sndL c.s).toArray,.int .i64 g.ack] (some 21) rfl (xc_b fun ww hf => yiAcked_c c.s g.ack ww  ) ?_
 intro _
 refine kEA [2,3,4,5,6,7] [(6,.p 4 0),(7,.v (.bool ((acked c.s g.ack).2)))] [⟨38,sndL (acked c.s g.ack).1⟩] ?_
 refine kQ ?_
 refine kED [2,3,4,5,6,24] [(24,.v (.bool ((acked c.s g.ack).2)))] ?_
 refine kC ((acked c.s g.ack).2) (fun h4 => ?_) (fun h4 => ?_)
 refine kQ ?_
 refine kEU [2,3,4,5,6] [] 3 ⟨44,conL { c with s := (acked c.s g.ack).1 } (.slice v3a c.r.held.length v3c)⟩ ?_
 refine kQ ?_
 refine kCD 4 [2,3,4,5,6,28,30] [(28,.v (.int .i64 g.window)),(30,.v (.agg (optL c.o).toArray))] 70 [.int .i64 g.window,.agg (optL c.o).toArray] (some 31) rfl (xc_b fun ww hf => yiscaled_c g.window c.o ww  (by omega) (by (try dsimp only); omega)) ?_
 intro _
 refine kEU [2,3,4,5,6] [] 3 ⟨44,conL { c with s := (acked c.s g.ack).1,window := (farW g.window c.o) } (.slice v3a c.r.held.length v3c)⟩ ?_
 refine kQ ?_
 refine kOS 4 [2,3,4,5,6,34,36] [(2,.p 0 0),(3,.p 1 0),(4,.p 2 0),(5,.p 3 0),(6,.p 4 0),(34,.v (.int .i64 c.most)),(36,.v (.int .i64 (farW g.window c.o)))] (.int .i64 (max c.most (farW g.window c.o))) rfl (fun _ _ _ ww hr => act_max2 (k := .i64) (k' := .i64) (p := c.most) (q := (farW g.window c.o)) hr.1 rfl rfl rfl (by kernel_rfl) (by kernel_rfl) ww) ?_
 refine kEU [2,3,4,5,6] [] 3 ⟨44,conL { c with s := (acked c.s g.ack).1,window := (farW g.window c.o),most := max c.most (farW g.window c.o) } (.slice v3a c.r.held.length v3c)⟩ ?_
 refine kQ ?_
 refine kRD 7 [2,3,4,5,6,45] [(45,.v (.bool (((acked c.s g.ack).1.una) != c.s.una)))] ?_
 refine kP 45 (((acked c.s g.ack).1.una) != c.s.una) (fun h5 => ?_) (fun h5 => ?_)
 have h5p := neT h5
 refine kED [2,3,4,5,6,54] [(54,.v (.bool (c.state != 7)))] ?_
 refine kC (c.state != 7) (fun h6 => ?_) (fun h6 => ?_)
 have h6p := neT h6
 refine kQ ?_
 refine kEU [2,3,4,5,6] [] 3 ⟨44,conL { c with s := (acked c.s g.ack).1,window := (farW g.window c.o),most := max c.most (farW g.window c.o),tries := 0 } (.slice v3a c.r.held.length v3c)⟩ ?_
 refine kQ ?_
 refine kEU [2,3,4,5,6] [] 3 ⟨44,[.int .i64 c.t.ip,.int .i64 c.t.port,.int .i64 c.t.my,.int .i64 c.state,.int .i64 ((acked c.s g.ack).1.una),.string ((acked c.s g.ack).1.data),.int .i64 ((acked c.s g.ack).1.sent),.bool ((acked c.s g.ack).1.fin),.bool ((acked c.s g.ack).1.finSent),.bool ((acked c.s g.ack).1.done),.int .i64 c.r.next,.string c.r.data,.slice v3a c.r.held.length v3c,.int .i64 c.r.fin,.bool c.r.done,.int .i64 (farW g.window c.o),.int .i64 (max c.most (farW g.window c.o)),.int .i64 c.o.mss,.int .i64 c.o.scale,.bool c.o.sack,.bool c.o.stamp,.int .i64 c.o.val,.int .i64 c.o.echo,.int .i64 0,.int .i64 0]⟩ ?_
 refine kQ ?_
 refine kCD 1 [2,3,4,5,57] [(57,.v (.agg (sndL (acked c.s g.ack).1).toArray))] 71 [.agg (sndL (acked c.s g.ack).1).toArray] (some 58) rfl (xc_b fun ww hf => iFlown_c ((acked c.s g.ack).1.una) ((acked c.s g.ack).1.data) ((acked c.s g.ack).1.sent) ((acked c.s g.ack).1.fin) ((acked c.s g.ack).1.finSent) ((acked c.s g.ack).1.done) ww ) ?_
 intro _
 refine kED [2,3,4,5,59] [(59,.v (.bool (decide ((flown ((acked c.s g.ack).1)) > 0))))] ?_
 refine kC (decide ((flown ((acked c.s g.ack).1)) > 0)) (fun h7 => ?_) (fun h7 => ?_)
 have h7p := of_decide_eq_true h7
 refine kG ?_
 refine kEU [2,3,4,5] [] 3 ⟨44,[.int .i64 c.t.ip,.int .i64 c.t.port,.int .i64 c.t.my,.int .i64 c.state,.int .i64 ((acked c.s g.ack).1.una),.string ((acked c.s g.ack).1.data),.int .i64 ((acked c.s g.ack).1.sent),.bool ((acked c.s g.ack).1.fin),.bool ((acked c.s g.ack).1.finSent),.bool ((acked c.s g.ack).1.done),.int .i64 c.r.next,.string c.r.data,.slice v3a c.r.held.length v3c,.int .i64 c.r.fin,.bool c.r.done,.int .i64 (farW g.window c.o),.int .i64 (max c.most (farW g.window c.o)),.int .i64 c.o.mss,.int .i64 c.o.scale,.bool c.o.sack,.bool c.o.stamp,.int .i64 c.o.val,.int .i64 c.o.echo,.int .i64 3,.int .i64 0]⟩ ?_
 exact ⟨⟨(⟨c.t,c.state,(acked c.s g.ack).1,c.r,(farW g.window c.o),max c.most (farW g.window c.o),c.o,3,0⟩),(by unfold heardMid; first | (simp [*]; done) | grind)⟩,kF 4 0 [2,3,4,5]⟩
 have h7p := of_decide_eq_false h7
 refine kK ?_
 exact ⟨⟨(⟨c.t,c.state,(acked c.s g.ack).1,c.r,(farW g.window c.o),max c.most (farW g.window c.o),c.o,0,0⟩),(by unfold heardMid; first | (simp [*]; done) | grind)⟩,kF 4 0 [2,3,4,5]⟩
 have h6p := neF h6
 refine kK ?_
 exact ⟨⟨({ c with s := (acked c.s g.ack).1,window := (farW g.window c.o),most := max c.most (farW g.window c.o) }),(by unfold heardMid; first | (simp [*]; done) | grind)⟩,kF 4 0 [2,3,4,5]⟩
 have h5p := neF h5
 refine kCD 1 [2,3,4,5,6,45,46] [(45,.v (.bool false)),(46,.v (.agg (sndL (acked c.s g.ack).1).toArray))] 71 [.agg (sndL (acked c.s g.ack).1).toArray] (some 47) rfl (xc_b fun ww hf => iFlown_c ((acked c.s g.ack).1.una) ((acked c.s g.ack).1.data) ((acked c.s g.ack).1.sent) ((acked c.s g.ack).1.fin) ((acked c.s g.ack).1.finSent) ((acked c.s g.ack).1.done) ww ) ?_
 intro _
 refine kRD 3 [2,3,4,5,6,50] [(50,.v (.bool ((flown ((acked c.s g.ack).1)) == 0)))] ?_
 refine kP 50 ((flown ((acked c.s g.ack).1)) == 0) (fun h8 => ?_) (fun h8 => ?_)
 have h8p := eqT h8
 refine kED [2,3,4,5,6,54] [(54,.v (.bool (c.state != 7)))] ?_
 refine kC (c.state != 7) (fun h9 => ?_) (fun h9 => ?_)
 have h9p := neT h9
 refine kQ ?_
 refine kEU [2,3,4,5,6] [] 3 ⟨44,conL { c with s := (acked c.s g.ack).1,window := (farW g.window c.o),most := max c.most (farW g.window c.o),tries := 0 } (.slice v3a c.r.held.length v3c)⟩ ?_
 refine kQ ?_
 refine kEU [2,3,4,5,6] [] 3 ⟨44,[.int .i64 c.t.ip,.int .i64 c.t.port,.int .i64 c.t.my,.int .i64 c.state,.int .i64 ((acked c.s g.ack).1.una),.string ((acked c.s g.ack).1.data),.int .i64 ((acked c.s g.ack).1.sent),.bool ((acked c.s g.ack).1.fin),.bool ((acked c.s g.ack).1.finSent),.bool ((acked c.s g.ack).1.done),.int .i64 c.r.next,.string c.r.data,.slice v3a c.r.held.length v3c,.int .i64 c.r.fin,.bool c.r.done,.int .i64 (farW g.window c.o),.int .i64 (max c.most (farW g.window c.o)),.int .i64 c.o.mss,.int .i64 c.o.scale,.bool c.o.sack,.bool c.o.stamp,.int .i64 c.o.val,.int .i64 c.o.echo,.int .i64 0,.int .i64 0]⟩ ?_
 refine kQ ?_
 refine kCD 1 [2,3,4,5,57] [(57,.v (.agg (sndL (acked c.s g.ack).1).toArray))] 71 [.agg (sndL (acked c.s g.ack).1).toArray] (some 58) rfl (xc_b fun ww hf => iFlown_c ((acked c.s g.ack).1.una) ((acked c.s g.ack).1.data) ((acked c.s g.ack).1.sent) ((acked c.s g.ack).1.fin) ((acked c.s g.ack).1.finSent) ((acked c.s g.ack).1.done) ww ) ?_
 intro _
 refine kED [2,3,4,5,59] [(59,.v (.bool (decide ((flown ((acked c.s g.ack).1)) > 0))))] ?_
 refine kC (decide ((flown ((acked c.s g.ack).1)) > 0)) (fun h10 => ?_) (fun h10 => ?_)
 have h10p := of_decide_eq_true h10
 refine kG ?_
 refine kEU [2,3,4,5] [] 3 ⟨44,[.int .i64 c.t.ip,.int .i64 c.t.port,.int .i64 c.t.my,.int .i64 c.state,.int .i64 ((acked c.s g.ack).1.una),.string ((acked c.s g.ack).1.data),.int .i64 ((acked c.s g.ack).1.sent),.bool ((acked c.s g.ack).1.fin),.bool ((acked c.s g.ack).1.finSent),.bool ((acked c.s g.ack).1.done),.int .i64 c.r.next,.string c.r.data,.slice v3a c.r.held.length v3c,.int .i64 c.r.fin,.bool c.r.done,.int .i64 (farW g.window c.o),.int .i64 (max c.most (farW g.window c.o)),.int .i64 c.o.mss,.int .i64 c.o.scale,.bool c.o.sack,.bool c.o.stamp,.int .i64 c.o.val,.int .i64 c.o.echo,.int .i64 3,.int .i64 0]⟩ ?_
 exact ⟨⟨(⟨c.t,c.state,(acked c.s g.ack).1,c.r,(farW g.window c.o),max c.most (farW g.window c.o),c.o,3,0⟩),(by unfold heardMid; first | (simp [*]; done) | grind)⟩,kF 4 0 [2,3,4,5]⟩
 have h10p := of_decide_eq_false h10
 refine kK ?_
 exact ⟨⟨(⟨c.t,c.state,(acked c.s g.ack).1,c.r,(farW g.window c.o),max c.most (farW g.window c.o),c.o,0,0⟩),(by unfold heardMid; first | (simp [*]; done) | grind)⟩,kF 4 0 [2,3,4,5]⟩
 have h9p := neF h9
 refine kK ?_
 exact ⟨⟨({ c with s := (acked c.s g.ack).1,window := (farW g.window c.o),most := max c.most (farW g.window c.o) }),(by unfold heardMid; first | (simp [*]; done) | grind)⟩,kF 4 0 [2,3,4,5]⟩
 have h8p := eqF h8
 refine kED [2,3,4,5,6,54] [(54,.v (.bool false))] ?_
 refine kN ?_
 refine kK ?_
 exact ⟨⟨({ c with s := (acked c.s g.ack).1,window := (farW g.window c.o),most := max c.most (farW g.window c.o) }),(by unfold heardMid; first | (simp [*]; done) | grind)⟩,kF 4 0 [2,3,4,5]⟩
 refine kK ?_
 exact ⟨⟨(c),(by unfold heardMid; first | (simp [*]; done) | grind)⟩,kF 4 0 [2,3,4,5]⟩
 rintro ⟨m,hm5⟩
 try dsimp only
 try dsimp only at hm5
 have hmr : m.r = c.r := by rw [hm5]; exact (heardMid_eq c g).1
 have hm1 : m.r.held.length ≤ 1048576 := by rw [hmr]; exact hkn
 have hm2 : ∀ p ∈ m.r.held,p.text.size ≤ 1048576 := by rw [hmr]; exact hm
 have hm3 : m.r.data.size ≤ 4611686018427387904 := by rw [hmr]; exact hsz
 refine kS ?_
 refine kQ ?_
 refine kRD 4 [2,3,4,5,64] [(64,.v (.bool (c.state == 1)))] ?_
 refine kP 64 (c.state == 1) (fun h11 => ?_) (fun h11 => ?_)
 have h11p := eqT h11
 refine kED [2,3,4,5,73] [(73,.v (.bool true))] ?_
 refine kT ?_
 refine xe_region0 [true,true,true,false] (by kernel_rfl) (fun ρ σ => ?_)
 refine kTS [0,1,2,3,4,5,6] [80,79,77,75,4,5] 4 [(80,.v (.agg (segL g).toArray)),(79,.v (.string g.body)),(77,.v (.int .i64 g.seq)),(75,.v (.agg (rcvL c.r (.slice Acrh c.r.held.length Ccrh)).toArray)),(4,.p 2 0),(5,.p 3 0)] ?_
 refine kA [7] ?_
 refine kSC 7 44 [.agg (segL g).toArray,.int .i64 1] (some 81) rfl (xc_b fun ww hf => iHas_c g.src g.dst g.seq g.ack g.flags g.window g.o.mss g.o.scale g.o.sack g.o.stamp g.o.val g.o.echo g.body 1 ww ) ?_
 intro _
 refine kA [8] ?_
 refine kSC 8 72 [.agg (rcvL c.r (.slice Acrh c.r.held.length Ccrh)).toArray,.int .i64 g.seq,.string g.body,.bool (hasF g.flags 1)] (some 82) rfl (xc_r fun ww hw hf => yiArrived_c c.r (.slice Acrh c.r.held.length Ccrh) g.seq g.body (hasF g.flags 1) ww (hf _ m1) (by assumption) (by assumption) (by omega) (by omega) w.heap.size hw) ?_
 rintro ⟨v12a,v12c⟩
 have hz13 := arrived_sz (H := 1048576) (T := 1048576) (D := 4611686018427387904) (r := c.r) (seq := g.seq) (t := g.body) (fin := (hasF g.flags 1)) (by assumption) (by assumption) (by assumption) (by omega) (by omega) (by omega)
 obtain ⟨hz13a,hz13b,hz13c⟩ := hz13
 refine kTS [9] [83,82,4,5] 1 [(83,.p 3 10),(82,.v (.agg (rcvL (arrived c.r g.seq g.body (hasF g.flags 1)) (.slice v12a ((arrived c.r g.seq g.body (hasF g.flags 1)).held.length) v12c)).toArray)),(4,.p 2 0),(5,.p 3 0)] ?_
 refine kA [10] ?_
 refine kSS 10 3 10 (rcvL (arrived c.r g.seq g.body (hasF g.flags 1)) (.slice v12a ((arrived c.r g.seq g.body (hasF g.flags 1)).held.length) v12c)) rfl ?_
 refine kZ ?_
 refine kQ ?_
 refine kCD 1 [4,84] [(84,.v (.agg (conL { m with r := (arrived c.r g.seq g.body (hasF g.flags 1)) } (.slice v12a ((arrived c.r g.seq g.body (hasF g.flags 1)).held.length) v12c)).toArray))] 73 [.agg (conL { m with r := (arrived c.r g.seq g.body (hasF g.flags 1)) } (.slice v12a ((arrived c.r g.seq g.body (hasF g.flags 1)).held.length) v12c)).toArray] (some 85) rfl (xc_r fun ww hw hf => yiTurned_c ({ m with r := (arrived c.r g.seq g.body (hasF g.flags 1)) }) (.slice v12a ((arrived c.r g.seq g.body (hasF g.flags 1)).held.length) v12c) ww (Own.sl (hf _ m0)) (by assumption) (by assumption) (by omega) w.heap.size hw) ?_
 rintro ⟨v14a,v14c⟩
 have hbd15 : (turned ({ m with r := (arrived c.r g.seq g.body (hasF g.flags 1)) })).r.held.length ≤ 1048576 := turned_bd _  (by omega)
 refine kEU [4] [(4,.p 2 0)] 2 ⟨44,conL (turned ({ m with r := (arrived c.r g.seq g.body (hasF g.flags 1)) })) (.slice v14a ((turned ({ m with r := (arrived c.r g.seq g.body (hasF g.flags 1)) })).r.held.length) v14c)⟩ ?_
 refine kR ?_
 have hmod : heard c g = (turned ({ m with r := (arrived c.r g.seq g.body (hasF g.flags 1)) })) := by first | (unfold heard; rw [if_pos hv5,← hm5]; unfold heardR; rw [if_pos (by assumption)]; done) | (unfold heard; rw [if_pos hv5,← hm5]; unfold heardR; rw [if_pos (by unfold inB; simp [*]; done)]; done) | (unfold heard; rw [if_pos hv5,← hm5]; unfold heardR; rw [if_neg (by unfold inB; simp; omega),← hmr]; done) | (unfold heard; rw [if_neg hv5]; done)
 exact ⟨[.agg (conL (turned ({ m with r := (arrived c.r g.seq g.body (hasF g.flags 1)) })) (.slice v14a ((turned ({ m with r := (arrived c.r g.seq g.body (hasF g.flags 1)) })).r.held.length) v14c)).toArray],by kernel_rfl,fun w' hb hf ha => by rw [hmod]; exact xo1 ((v14a,v14c)) rfl rfl (pO (hf _ m0) hB) hb⟩
 have h11p := eqF h11
 refine kRD 5 [2,3,4,5,69] [(69,.v (.bool (c.state == 2)))] ?_
 refine kP 69 (c.state == 2) (fun h16 => ?_) (fun h16 => ?_)
 have h16p := eqT h16
 refine kED [2,3,4,5,73] [(73,.v (.bool true))] ?_
 refine kT ?_
 refine xe_region0 [true,true,true,false] (by kernel_rfl) (fun ρ σ => ?_)
 refine kTS [0,1,2,3,4,5,6] [80,79,77,75,4,5] 4 [(80,.v (.agg (segL g).toArray)),(79,.v (.string g.body)),(77,.v (.int .i64 g.seq)),(75,.v (.agg (rcvL c.r (.slice Acrh c.r.held.length Ccrh)).toArray)),(4,.p 2 0),(5,.p 3 0)] ?_
 refine kA [7] ?_
 refine kSC 7 44 [.agg (segL g).toArray,.int .i64 1] (some 81) rfl (xc_b fun ww hf => iHas_c g.src g.dst g.seq g.ack g.flags g.window g.o.mss g.o.scale g.o.sack g.o.stamp g.o.val g.o.echo g.body 1 ww ) ?_
 intro _
 refine kA [8] ?_
 refine kSC 8 72 [.agg (rcvL c.r (.slice Acrh c.r.held.length Ccrh)).toArray,.int .i64 g.seq,.string g.body,.bool (hasF g.flags 1)] (some 82) rfl (xc_r fun ww hw hf => yiArrived_c c.r (.slice Acrh c.r.held.length Ccrh) g.seq g.body (hasF g.flags 1) ww (hf _ m1) (by assumption) (by assumption) (by omega) (by omega) w.heap.size hw) ?_
 rintro ⟨v17a,v17c⟩
 have hz18 := arrived_sz (H := 1048576) (T := 1048576) (D := 4611686018427387904) (r := c.r) (seq := g.seq) (t := g.body) (fin := (hasF g.flags 1)) (by assumption) (by assumption) (by assumption) (by omega) (by omega) (by omega)
 obtain ⟨hz18a,hz18b,hz18c⟩ := hz18
 refine kTS [9] [83,82,4,5] 1 [(83,.p 3 10),(82,.v (.agg (rcvL (arrived c.r g.seq g.body (hasF g.flags 1)) (.slice v17a ((arrived c.r g.seq g.body (hasF g.flags 1)).held.length) v17c)).toArray)),(4,.p 2 0),(5,.p 3 0)] ?_
 refine kA [10] ?_
 refine kSS 10 3 10 (rcvL (arrived c.r g.seq g.body (hasF g.flags 1)) (.slice v17a ((arrived c.r g.seq g.body (hasF g.flags 1)).held.length) v17c)) rfl ?_
 refine kZ ?_
 refine kQ ?_
 refine kCD 1 [4,84] [(84,.v (.agg (conL { m with r := (arrived c.r g.seq g.body (hasF g.flags 1)) } (.slice v17a ((arrived c.r g.seq g.body (hasF g.flags 1)).held.length) v17c)).toArray))] 73 [.agg (conL { m with r := (arrived c.r g.seq g.body (hasF g.flags 1)) } (.slice v17a ((arrived c.r g.seq g.body (hasF g.flags 1)).held.length) v17c)).toArray] (some 85) rfl (xc_r fun ww hw hf => yiTurned_c ({ m with r := (arrived c.r g.seq g.body (hasF g.flags 1)) }) (.slice v17a ((arrived c.r g.seq g.body (hasF g.flags 1)).held.length) v17c) ww (Own.sl (hf _ m0)) (by assumption) (by assumption) (by omega) w.heap.size hw) ?_
 rintro ⟨v19a,v19c⟩
 have hbd20 : (turned ({ m with r := (arrived c.r g.seq g.body (hasF g.flags 1)) })).r.held.length ≤ 1048576 := turned_bd _  (by omega)
 refine kEU [4] [(4,.p 2 0)] 2 ⟨44,conL (turned ({ m with r := (arrived c.r g.seq g.body (hasF g.flags 1)) })) (.slice v19a ((turned ({ m with r := (arrived c.r g.seq g.body (hasF g.flags 1)) })).r.held.length) v19c)⟩ ?_
 refine kR ?_
 have hmod : heard c g = (turned ({ m with r := (arrived c.r g.seq g.body (hasF g.flags 1)) })) := by first | (unfold heard; rw [if_pos hv5,← hm5]; unfold heardR; rw [if_pos (by assumption)]; done) | (unfold heard; rw [if_pos hv5,← hm5]; unfold heardR; rw [if_pos (by unfold inB; simp [*]; done)]; done) | (unfold heard; rw [if_pos hv5,← hm5]; unfold heardR; rw [if_neg (by unfold inB; simp; omega),← hmr]; done) | (unfold heard; rw [if_neg hv5]; done)
 exact ⟨[.agg (conL (turned ({ m with r := (arrived c.r g.seq g.body (hasF g.flags 1)) })) (.slice v19a ((turned ({ m with r := (arrived c.r g.seq g.body (hasF g.flags 1)) })).r.held.length) v19c)).toArray],by kernel_rfl,fun w' hb hf ha => by rw [hmod]; exact xo1 ((v19a,v19c)) rfl rfl (pO (hf _ m0) hB) hb⟩
 have h16p := eqF h16
 refine kED [2,3,4,5,73] [(73,.v (.bool (c.state == 3)))] ?_
 refine kC (c.state == 3) (fun h21 => ?_) (fun h21 => ?_)
 have h21p := eqT h21
 refine xe_region0 [true,true,true,false] (by kernel_rfl) (fun ρ σ => ?_)
 refine kTS [0,1,2,3,4,5,6] [80,79,77,75,4,5] 4 [(80,.v (.agg (segL g).toArray)),(79,.v (.string g.body)),(77,.v (.int .i64 g.seq)),(75,.v (.agg (rcvL c.r (.slice Acrh c.r.held.length Ccrh)).toArray)),(4,.p 2 0),(5,.p 3 0)] ?_
 refine kA [7] ?_
 refine kSC 7 44 [.agg (segL g).toArray,.int .i64 1] (some 81) rfl (xc_b fun ww hf => iHas_c g.src g.dst g.seq g.ack g.flags g.window g.o.mss g.o.scale g.o.sack g.o.stamp g.o.val g.o.echo g.body 1 ww ) ?_
 intro _
 refine kA [8] ?_
 refine kSC 8 72 [.agg (rcvL c.r (.slice Acrh c.r.held.length Ccrh)).toArray,.int .i64 g.seq,.string g.body,.bool (hasF g.flags 1)] (some 82) rfl (xc_r fun ww hw hf => yiArrived_c c.r (.slice Acrh c.r.held.length Ccrh) g.seq g.body (hasF g.flags 1) ww (hf _ m1) (by assumption) (by assumption) (by omega) (by omega) w.heap.size hw) ?_
 rintro ⟨v22a,v22c⟩
 have hz23 := arrived_sz (H := 1048576) (T := 1048576) (D := 4611686018427387904) (r := c.r) (seq := g.seq) (t := g.body) (fin := (hasF g.flags 1)) (by assumption) (by assumption) (by assumption) (by omega) (by omega) (by omega)
 obtain ⟨hz23a,hz23b,hz23c⟩ := hz23
 refine kTS [9] [83,82,4,5] 1 [(83,.p 3 10),(82,.v (.agg (rcvL (arrived c.r g.seq g.body (hasF g.flags 1)) (.slice v22a ((arrived c.r g.seq g.body (hasF g.flags 1)).held.length) v22c)).toArray)),(4,.p 2 0),(5,.p 3 0)] ?_
 refine kA [10] ?_
 refine kSS 10 3 10 (rcvL (arrived c.r g.seq g.body (hasF g.flags 1)) (.slice v22a ((arrived c.r g.seq g.body (hasF g.flags 1)).held.length) v22c)) rfl ?_
 refine kZ ?_
 refine kQ ?_
 refine kCD 1 [4,84] [(84,.v (.agg (conL { m with r := (arrived c.r g.seq g.body (hasF g.flags 1)) } (.slice v22a ((arrived c.r g.seq g.body (hasF g.flags 1)).held.length) v22c)).toArray))] 73 [.agg (conL { m with r := (arrived c.r g.seq g.body (hasF g.flags 1)) } (.slice v22a ((arrived c.r g.seq g.body (hasF g.flags 1)).held.length) v22c)).toArray] (some 85) rfl (xc_r fun ww hw hf => yiTurned_c ({ m with r := (arrived c.r g.seq g.body (hasF g.flags 1)) }) (.slice v22a ((arrived c.r g.seq g.body (hasF g.flags 1)).held.length) v22c) ww (Own.sl (hf _ m0)) (by assumption) (by assumption) (by omega) w.heap.size hw) ?_
 rintro ⟨v24a,v24c⟩
 have hbd25 : (turned ({ m with r := (arrived c.r g.seq g.body (hasF g.flags 1)) })).r.held.length ≤ 1048576 := turned_bd _  (by omega)
 refine kEU [4] [(4,.p 2 0)] 2 ⟨44,conL (turned ({ m with r := (arrived c.r g.seq g.body (hasF g.flags 1)) })) (.slice v24a ((turned ({ m with r := (arrived c.r g.seq g.body (hasF g.flags 1)) })).r.held.length) v24c)⟩ ?_
 refine kR ?_
 have hmod : heard c g = (turned ({ m with r := (arrived c.r g.seq g.body (hasF g.flags 1)) })) := by first | (unfold heard; rw [if_pos hv5,← hm5]; unfold heardR; rw [if_pos (by assumption)]; done) | (unfold heard; rw [if_pos hv5,← hm5]; unfold heardR; rw [if_pos (by unfold inB; simp [*]; done)]; done) | (unfold heard; rw [if_pos hv5,← hm5]; unfold heardR; rw [if_neg (by unfold inB; simp; omega),← hmr]; done) | (unfold heard; rw [if_neg hv5]; done)
 exact ⟨[.agg (conL (turned ({ m with r := (arrived c.r g.seq g.body (hasF g.flags 1)) })) (.slice v24a ((turned ({ m with r := (arrived c.r g.seq g.body (hasF g.flags 1)) })).r.held.length) v24c)).toArray],by kernel_rfl,fun w' hb hf ha => by rw [hmod]; exact xo1 ((v24a,v24c)) rfl rfl (pO (hf _ m0) hB) hb⟩
 have h21p := eqF h21
 refine kK ?_
 refine kQ ?_
 refine kCD 1 [4,84] [(84,.v (.agg (conL m (.slice v3a m.r.held.length v3c)).toArray))] 73 [.agg (conL m (.slice v3a m.r.held.length v3c)).toArray] (some 85) rfl (xc_r fun ww hw hf => yiTurned_c m (.slice v3a m.r.held.length v3c) ww (Own.sl (hf _ m0)) (by assumption) (by assumption) (by omega) w.heap.size hw) ?_
 rintro ⟨v26a,v26c⟩
 have hbd27 : (turned m).r.held.length ≤ 1048576 := turned_bd _  (by omega)
 refine kEU [4] [(4,.p 2 0)] 2 ⟨44,conL (turned m) (.slice v26a ((turned m).r.held.length) v26c)⟩ ?_
 refine kR ?_
 have hmod : heard c g = (turned m) := by first | (unfold heard; rw [if_pos hv5,← hm5]; unfold heardR; rw [if_pos (by assumption)]; done) | (unfold heard; rw [if_pos hv5,← hm5]; unfold heardR; rw [if_pos (by unfold inB; simp [*]; done)]; done) | (unfold heard; rw [if_pos hv5,← hm5]; unfold heardR; rw [if_neg (by unfold inB; simp; omega),← hmr]; done) | (unfold heard; rw [if_neg hv5]; done)
 exact ⟨[.agg (conL (turned m) (.slice v26a ((turned m).r.held.length) v26c)).toArray],by kernel_rfl,fun w' hb hf ha => by rw [hmod]; exact xo1 ((v26a,v26c)) rfl rfl (pO (hf _ m0) hB) hb⟩
theorem yiReceive_c (c : Con) (c_r_heldV : Value) (g : Seg) (w : World) (hl_c_r_heldV : Sl w c_r_heldV 2 (c.r.held.map pceCells)) (hkn : c.r.held.length ≤ 1048576)(hgz : g.body.size ≤ 1048576) (hm : ∀ p ∈ c.r.held, p.text.size ≤ 1048576) (hsz : c.r.data.size ≤ 4611686018427387904) (B : Nat) (hB : B ≤ w.heap.size) : Calls Tryz.prog 11 #[.agg (conL c c_r_heldV).toArray, .agg (segL g).toArray] w fun e w' => XRs w w' e (α := (Option Addr × Nat) × (Option Addr × Nat)) (fun y => .tuple #[.agg (conL (received c g).1 (.slice y.1.1 ((received c g).1.r.held.length) y.1.2)).toArray, .slice y.2.1 ((received c g).2.1.length) y.2.2, .int .i64 ((received c g).2.2)]) (fun y => [ownF B (.slice y.1.1 ((received c g).1.r.held.length) y.1.2) 2 ((received c g).1.r.held.map pceCells), ownF B (.slice y.2.1 ((received c g).2.1.length) y.2.2) 13 ((received c g).2.1.map segCells)]) := by
 obtain ⟨Acrh,Ccrh,hvcrh⟩ := hl_c_r_heldV.form
 rw [List.length_map] at hvcrh; subst hvcrh
 have hncrh := hl_c_r_heldV.len; rw [List.length_map] at hncrh
 have hqcrh := Sl.capLe hl_c_r_heldV
 refine x_callsA (args := [.agg (conL c (.slice Acrh c.r.held.length Ccrh)).toArray,.agg (segL g).toArray]) (fn := Tryz.f11) [slF (.slice Acrh c.r.held.length Ccrh) 2 (c.r.held.map pceCells)] Tryz.func11 rfl Tryz.ntmps11 rfl (by simp only [List.mem_cons,List.not_mem_nil,or_false,forall_eq_or_imp,forall_eq]; exact ⟨rfl,hl_c_r_heldV⟩) ?_
 refine kQ ?_
 refine kEF [2,3,4] ⟨[(2,.p 0 0),(3,.p 1 0),(4,.p 2 0)],[⟨44,conL c (.slice Acrh c.r.held.length Ccrh)⟩,⟨50,segL g⟩,⟨44,conZ⟩],[],[slF (.slice Acrh c.r.held.length Ccrh) 2 (c.r.held.map pceCells)]⟩ ?_
 refine kQ ?_
 refine kCD 2 [2,3,4,11,12] [(11,.v (.agg (conL c (.slice Acrh c.r.held.length Ccrh)).toArray)),(12,.v (.agg (segL g).toArray))] 42 [.agg (conL c (.slice Acrh c.r.held.length Ccrh)).toArray,.agg (segL g).toArray] (some 13) rfl (xc_b fun ww hf => yiVerdict_c c (.slice Acrh c.r.held.length Ccrh) g ww (hf _ m0) (by omega) (by assumption) (by omega)) ?_
 intro _
 refine kED [2,3,4,7] [(7,.v (.int .i64 (verdict c g)))] ?_
 refine kQ ?_
 refine kCD 1 [2,3,4,7,14] [(14,.v (.agg (conL c (.slice Acrh c.r.held.length Ccrh)).toArray))] 43 [.agg (conL c (.slice Acrh c.r.held.length Ccrh)).toArray] (some 15) rfl (xc_r fun ww hw hf => ycloneConn_c c (.slice Acrh c.r.held.length Ccrh) ww (hf _ m0) (by assumption) w.heap.size hw) ?_
 rintro ⟨v1a,v1c⟩
 refine kEA [2,3,4,7,8] [(8,.p 3 0)] [⟨44,conL c (.slice v1a c.r.held.length v1c)⟩] ?_
 refine kS ?_
 refine kQ ?_
 refine kED [2,3,4,7,8,16] [(16,.v (.int .i64 (verdict c g)))] ?_
 refine xw_block ?_
 refine kQ ?_
 refine kED [2,3,4,7,8,16,17] [(17,.v (.bool ((verdict c g) == 2)))] ?_
 refine kC ((verdict c g) == 2) (fun h2 => ?_) (fun h2 => ?_)
 have h2p := eqT h2
 refine kQ ?_
 refine kEU [4,7,8] [] 3 ⟨44,conL { c with state := 8,timer := 0,tries := 0 } (.slice v1a c.r.held.length v1c)⟩ ?_
 refine kQ ?_
 refine kEU [4,5,6] [(5,.v (.slice none 0 0)),(6,.v (.int .i64 (verdict c g)))] 2 ⟨44,conL { c with state := 8,timer := 0,tries := 0 } (.slice v1a c.r.held.length v1c)⟩ ?_
 refine kR ?_
 have hmod : received c g = (({ c with state := 8,timer := 0,tries := 0 }),[],(verdict c g)) := by first | exact received_drop (by assumption) (by assumption) (by assumption) (by assumption) | exact received_seg hv5 (by assumption) hpn (by assumption) | (simp [received,answered,ackOf, *]; done) | grind [received,answered,ackOf]
 exact ⟨[.agg (conL { c with state := 8,timer := 0,tries := 0 } (.slice v1a c.r.held.length v1c)).toArray,.slice none 0 0,.int .i64 (verdict c g)],by kernel_rfl,fun w' hb hf ha => by rw [hmod]; exact xo2 ((v1a,v1c),(none,0)) rfl rfl (pO (hf _ m0) hB) ⟨.inl ⟨rfl,_,rfl⟩,fun b hb => (hb.1 rfl).elim⟩ (apart_nil2 rfl) hb⟩
 have h2p := eqF h2
 refine kS ?_
 refine kQ ?_
 refine kED [2,3,4,7,8,16,24] [(24,.v (.bool ((verdict c g) == 3)))] ?_
 refine kC ((verdict c g) == 3) (fun h3 => ?_) (fun h3 => ?_)
 have h3p := eqT h3
 refine kK ?_
 refine kC ((verdict c g) == 3) (fun h4 => ?_) (fun h4 => ?_)
 have h4p := eqT h4
 refine kS ?_
 refine xw_joinF (α := {zz : Int // (fun (tm : Int) => tm = if verdict c g = 4 ∧ c.state = 7 ∧ hasF g.flags 1 = true then 4 else c.timer) zz}) (fun zz => (fun (tm : Int) => (⟨[(2,.p 0 0),(4,.p 2 0),(7,.v (.int .i64 (verdict c g))),(8,.p 3 0)],[⟨44,conL c (.slice Acrh c.r.held.length Ccrh)⟩,⟨50,segL g⟩,⟨44,conZ⟩,⟨44,conL { c with timer := tm } (.slice v1a c.r.held.length v1c)⟩],[],[ownF w.heap.size (.slice v1a c.r.held.length v1c) 2 (c.r.held.map pceCells),slF (.slice Acrh c.r.held.length Ccrh) 2 (c.r.held.map pceCells)]⟩ : St)) zz.1) ?_ ?_
 refine kQ ?_
 refine kRD 3 [2,3,4,7,8,29] [(29,.v (.bool ((verdict c g) == 4)))] ?_
 refine kP 29 ((verdict c g) == 4) (fun h5 => ?_) (fun h5 => ?_)
 have h5p := eqT h5
 exfalso; omega
 have h5p := eqF h5
 refine kED [2,4,7,8,37] [(37,.v (.bool false))] ?_
 refine kN ?_
 refine kK ?_
 exact ⟨⟨(c.timer),(by first | (rw [if_neg (by rintro ⟨q1,q2,q3⟩; omega)]; done) | (rw [if_neg (by rintro ⟨q1,q2,q3⟩; simp_all; done)]; done) | (rw [if_pos ⟨by omega,by omega,by assumption⟩]; done))⟩,kF 4 0 [2,4,7,8]⟩
 rintro ⟨tm,htm⟩
 try dsimp only
 try dsimp only at htm
 refine kS ?_
 refine xw_joinE (α := Nat) (fun y => (fun (g7 : Nat) => (⟨[(4,.p 2 0),(5,.v (.slice (some ⟨g7,0,none⟩) 1 1)),(6,.v (.int .i64 (verdict c g)))],[⟨44,conL c (.slice Acrh c.r.held.length Ccrh)⟩,⟨50,segL g⟩,⟨44,conL { c with timer := tm } (.slice v1a c.r.held.length v1c)⟩,⟨44,conL { c with timer := tm } (.slice v1a c.r.held.length v1c)⟩],[],[rowF w.heap.size 50 13 (.slice (some ⟨g7,0,none⟩) 1 1) (([⟨c.t.my,c.t.port,nextOf c.s,c.r.next,16,windowOf c.r,⟨0,(-1),false,false,0,0⟩,(⟨#[]⟩ : ByteArray)⟩] : List Seg).map segCells),ownF w.heap.size (.slice v1a c.r.held.length v1c) 2 (c.r.held.map pceCells),slF (.slice Acrh c.r.held.length Ccrh) 2 (c.r.held.map pceCells)]⟩ : St)) y) ?_ ?_
 refine xe_region0 [true,true,false,true] (by kernel_rfl) (fun ρ σ => ?_)
 refine kTS [0,1,4] [43,40,39,4] 5 [(43,.v (.int .i64 (verdict c g))),(40,.v (.agg (conL c (.slice Acrh c.r.held.length Ccrh)).toArray)),(39,.v (.agg (conL { c with timer := tm } (.slice v1a c.r.held.length v1c)).toArray)),(4,.p 2 0)] ?_
 refine kA [2] ?_
 refine kSC 2 45 [.agg (conL c (.slice Acrh c.r.held.length Ccrh)).toArray] (some 41) rfl (xc_b fun ww hf => iAckOf_c c.t.ip c.t.port c.t.my c.state c.s.una c.s.data c.s.sent c.s.fin c.s.finSent c.s.done c.r.next c.r.data c.r.held (.slice Acrh c.r.held.length Ccrh) c.r.fin c.r.done c.window c.most c.o.mss c.o.scale c.o.sack c.o.stamp c.o.val c.o.echo c.timer c.tries ww (by omega)) ?_
 intro _
 refine kA [3,5] ⟨?_,?_⟩
 refine kSH 3 rfl (under_t (under_t (under_f rfl (under_t under_nil)))) (hv_build (e := 50) (K := 13) (bytes := 104) [.agg #[.int .i64 c.t.my,.int .i64 c.t.port,.int .i64 (nextOf c.s),.int .i64 c.r.next,.int .i64 16,.int .i64 (windowOf c.r),.int .i64 0,.int .i64 (-1),.bool false,.bool false,.int .i64 0,.int .i64 0,.string (⟨#[]⟩ : ByteArray)]] rfl (by kernel_rfl) (by kernel_rfl) (by kernel_rfl) (by kernel_rfl) (by kernel_rfl) (rs := ([⟨c.t.my,c.t.port,nextOf c.s,c.r.next,16,windowOf c.r,⟨0,(-1),false,false,0,0⟩,(⟨#[]⟩ : ByteArray)⟩] : List Seg).map segCells) rfl) ?_
 intro g7
 refine kA [5] ?_
 refine kSS 5 2 0 (conL { c with timer := tm } (.slice v1a c.r.held.length v1c)) rfl ?_
 refine kTS [6,7] [6,5,4] 0 [(6,.v (.int .i64 (verdict c g))),(5,.v (.slice (some ⟨g7,0,none⟩) 1 1)),(4,.p 2 0)] ?_
 refine kZ ?_
 exact ⟨(g7),kF 4 0 [4,5,6]⟩
 refine kSS 5 2 0 (conL { c with timer := tm } (.slice v1a c.r.held.length v1c)) rfl ?_
 refine kA [3] ?_
 refine kSH 3 rfl (under_t (under_t (under_f rfl (under_t under_nil)))) (hv_build (e := 50) (K := 13) (bytes := 104) [.agg #[.int .i64 c.t.my,.int .i64 c.t.port,.int .i64 (nextOf c.s),.int .i64 c.r.next,.int .i64 16,.int .i64 (windowOf c.r),.int .i64 0,.int .i64 (-1),.bool false,.bool false,.int .i64 0,.int .i64 0,.string (⟨#[]⟩ : ByteArray)]] rfl (by kernel_rfl) (by kernel_rfl) (by kernel_rfl) (by kernel_rfl) (by kernel_rfl) (rs := ([⟨c.t.my,c.t.port,nextOf c.s,c.r.next,16,windowOf c.r,⟨0,(-1),false,false,0,0⟩,(⟨#[]⟩ : ByteArray)⟩] : List Seg).map segCells) rfl) ?_
 intro g9
 refine kTS [6,7] [6,5,4] 0 [(6,.v (.int .i64 (verdict c g))),(5,.v (.slice (some ⟨g9,0,none⟩) 1 1)),(4,.p 2 0)] ?_
 refine kZ ?_
 exact ⟨(g9),kF 4 0 [4,5,6]⟩
 intro g7
 refine kR ?_
 have hmod : received c g = (({ c with timer := tm }),([⟨c.t.my,c.t.port,nextOf c.s,c.r.next,16,windowOf c.r,⟨0,(-1),false,false,0,0⟩,(⟨#[]⟩ : ByteArray)⟩] : List Seg),(verdict c g)) := by first | (have hv4 : verdict c g = 4 := (by assumption); exact (received_ack hv4 htm).trans (by rw [hv4]; first | done | rfl)) | (have hv3 : verdict c g = 3 := (by assumption); exact (received_chal hv3 htm).trans (by rw [hv3]; first | done | rfl))
 exact ⟨[.agg (conL { c with timer := tm } (.slice v1a c.r.held.length v1c)).toArray,.slice (some ⟨g7,0,none⟩) 1 1,.int .i64 (verdict c g)],by kernel_rfl,fun w' hb hf ha => by rw [hmod]; exact xo2 ((v1a,v1c),(((some ⟨g7,0,none⟩) : Option Addr),1)) rfl rfl (pO (hf _ m1) hB) (pR (hf _ m0) hB) (Apart.sub2 ha (i := 1) (j := 0) rfl rfl (by decide) rfl (fun b h => h) (fun b h => rowF_blk h)) hb⟩
 have h4p := eqF h4
 refine kQ ?_
 refine kED [2,3,4,7,8,44] [(44,.v (.bool ((verdict c g) == 5)))] ?_
 refine kC ((verdict c g) == 5) (fun h10 => ?_) (fun h10 => ?_)
 have h10p := eqT h10
 refine kQ ?_
 refine kCD 2 [3,4,7,8,46,47] [(46,.v (.agg (conL c (.slice Acrh c.r.held.length Ccrh)).toArray)),(47,.v (.agg (segL g).toArray))] 27 [.agg (conL c (.slice Acrh c.r.held.length Ccrh)).toArray,.agg (segL g).toArray] (some 48) rfl (xc_r fun ww hw hf => yiHeard_c c (.slice Acrh c.r.held.length Ccrh) g ww (hf _ m1) (by assumption) (by omega) (by assumption) (by omega) w.heap.size hw) ?_
 rintro ⟨v11a,v11c⟩
 have hv5 : verdict c g = 5 := by have := verdict_rng c g; omega
 have hhw := heard_w hv5
 have hz12 := heard_sz (H := 1048576) (T := 1048576) (D := 4611686018427387904) (c := c) (g := g) (by assumption) (by assumption) (by assumption) (by omega) (by omega) (by omega)
 obtain ⟨hz12a,hz12b,hz12c⟩ := hz12
 refine kEU [3,4,7,8] [] 3 ⟨44,conL (heard c g) (.slice v11a ((heard c g).r.held.length) v11c)⟩ ?_
 refine kS ?_
 refine kQ ?_
 refine kES [3,4,7,8,51] [(3,.p 1 0),(4,.p 2 0),(7,.v (.int .i64 (verdict c g))),(8,.p 3 0),(51,.v (.bool (((heard c g).state) == 8)))] ?_
 refine kC (((heard c g).state) == 8) (fun h13 => ?_) (fun h13 => ?_)
 have h13p := eqT h13
 refine kQ ?_
 refine kEU [4,5,6] [(5,.v (.slice none 0 0)),(6,.v (.int .i64 (verdict c g)))] 2 ⟨44,conL (heard c g) (.slice v11a ((heard c g).r.held.length) v11c)⟩ ?_
 refine kR ?_
 have hmod : received c g = ((heard c g),[],(verdict c g)) := by first | exact received_drop (by assumption) (by assumption) (by assumption) (by assumption) | exact received_seg hv5 (by assumption) hpn (by assumption) | (simp [received,answered,ackOf, *]; done) | grind [received,answered,ackOf]
 exact ⟨[.agg (conL (heard c g) (.slice v11a ((heard c g).r.held.length) v11c)).toArray,.slice none 0 0,.int .i64 (verdict c g)],by kernel_rfl,fun w' hb hf ha => by rw [hmod]; exact xo2 ((v11a,v11c),(none,0)) rfl rfl (pO (hf _ m0) hB) ⟨.inl ⟨rfl,_,rfl⟩,fun b hb => (hb.1 rfl).elim⟩ (apart_nil2 rfl) hb⟩
 have h13p := eqF h13
 refine kK ?_
 refine kQ ?_
 refine kCD 3 [3,4,7,55,57] [(55,.v (.agg (conL (heard c g) (.slice v11a ((heard c g).r.held.length) v11c)).toArray)),(57,.v (.int .i64 ((heard c g).window)))] 46 [.agg (conL (heard c g) (.slice v11a ((heard c g).r.held.length) v11c)).toArray,.int .i64 ((heard c g).window)] (some 58) rfl (xc_r fun ww hw hf => yiPump_c (heard c g) (.slice v11a ((heard c g).r.held.length) v11c) ((heard c g).window) ww (Own.sl (hf _ m0)) (by assumption) (by assumption) (by omega) (by omega) w.heap.size hw) ?_
 rintro ⟨⟨v14a,v14c⟩,⟨v15a,v15c⟩⟩
 have hbd16 : (pump (heard c g) ((heard c g).window)).1.r.held.length ≤ 1048576 ∧ (pump (heard c g) ((heard c g).window)).2.length ≤ 49 := pump_bd _ _  (by omega)
 have hbd16a := hbd16.1; have hbd16b := hbd16.2
 refine kEA [3,4,7,9,10] [(9,.p 4 0),(10,.v (.slice v15a ((pump (heard c g) ((heard c g).window)).2.length) v15c))] [⟨44,conL (pump (heard c g) ((heard c g).window)).1 (.slice v14a ((pump (heard c g) ((heard c g).window)).1.r.held.length) v14c)⟩] ?_
 refine kS ?_
 refine kQ ?_
 refine kRD 4 [3,4,7,9,10,64] [(64,.v (.bool ((((pump (heard c g) ((heard c g).window)).2.length : Nat) : Int) == 0)))] ?_
 refine kP 64 ((((pump (heard c g) ((heard c g).window)).2.length : Nat) : Int) == 0) (fun h17 => ?_) (fun h17 => ?_)
 have h17p := eqT h17
 have hnil : (pump (heard c g) (heard c g).window).2 = [] := List.length_eq_zero_iff.1 (by have := h17; simp at this; first | omega | simp_all)
 have hpn := pump_none hnil
 have hpz : (pump (heard c g) (heard c g).window).1.r.data.size ≤ 4611686018427387904 := by rw [pump_rr]; omega
 refine kCD 1 [4,7,9,10,64,65] [(64,.v (.bool true)),(65,.v (.agg (segL g).toArray))] 47 [.agg (segL g).toArray] (some 66) rfl (xc_b fun ww hf => iSegmentLen_c g.src g.dst g.seq g.ack g.flags g.window g.o.mss g.o.scale g.o.sack g.o.stamp g.o.val g.o.echo g.body ww (by omega)) ?_
 intro _
 refine kED [4,7,9,10,68] [(68,.v (.bool ((segLen g) != 0)))] ?_
 refine kC ((segLen g) != 0) (fun h18 => ?_) (fun h18 => ?_)
 have h18p := neT h18
 refine kG ?_
 refine kCD 1 [4,7,9,10,69] [(69,.v (.agg (conL (pump (heard c g) ((heard c g).window)).1 (.slice v14a ((pump (heard c g) ((heard c g).window)).1.r.held.length) v14c)).toArray))] 45 [.agg (conL (pump (heard c g) ((heard c g).window)).1 (.slice v14a ((pump (heard c g) ((heard c g).window)).1.r.held.length) v14c)).toArray] (some 70) rfl (xc_b fun ww hf => iAckOf_c ((pump (heard c g) ((heard c g).window)).1.t.ip) ((pump (heard c g) ((heard c g).window)).1.t.port) ((pump (heard c g) ((heard c g).window)).1.t.my) ((pump (heard c g) ((heard c g).window)).1.state) ((pump (heard c g) ((heard c g).window)).1.s.una) ((pump (heard c g) ((heard c g).window)).1.s.data) ((pump (heard c g) ((heard c g).window)).1.s.sent) ((pump (heard c g) ((heard c g).window)).1.s.fin) ((pump (heard c g) ((heard c g).window)).1.s.finSent) ((pump (heard c g) ((heard c g).window)).1.s.done) ((pump (heard c g) ((heard c g).window)).1.r.next) ((pump (heard c g) ((heard c g).window)).1.r.data) ((pump (heard c g) ((heard c g).window)).1.r.held) (.slice v14a ((pump (heard c g) ((heard c g).window)).1.r.held.length) v14c) ((pump (heard c g) ((heard c g).window)).1.r.fin) ((pump (heard c g) ((heard c g).window)).1.r.done) ((pump (heard c g) ((heard c g).window)).1.window) ((pump (heard c g) ((heard c g).window)).1.most) ((pump (heard c g) ((heard c g).window)).1.o.mss) ((pump (heard c g) ((heard c g).window)).1.o.scale) ((pump (heard c g) ((heard c g).window)).1.o.sack) ((pump (heard c g) ((heard c g).window)).1.o.stamp) ((pump (heard c g) ((heard c g).window)).1.o.val) ((pump (heard c g) ((heard c g).window)).1.o.echo) ((pump (heard c g) ((heard c g).window)).1.timer) ((pump (heard c g) ((heard c g).window)).1.tries) ww (by omega)) ?_
 intro _
 refine kHD 0 [4,7,9,10,70] [] rfl (hv_build (e := 50) (K := 13) (bytes := 104) [.agg #[.int .i64 ((pump (heard c g) ((heard c g).window)).1.t.my),.int .i64 ((pump (heard c g) ((heard c g).window)).1.t.port),.int .i64 (nextOf ((pump (heard c g) ((heard c g).window)).1.s)),.int .i64 ((pump (heard c g) ((heard c g).window)).1.r.next),.int .i64 16,.int .i64 (windowOf ((pump (heard c g) ((heard c g).window)).1.r)),.int .i64 0,.int .i64 (-1),.bool false,.bool false,.int .i64 0,.int .i64 0,.string (⟨#[]⟩ : ByteArray)]] rfl (by kernel_rfl) (by kernel_rfl) (by kernel_rfl) (by kernel_rfl) (by kernel_rfl) (rs := ([⟨(pump (heard c g) ((heard c g).window)).1.t.my,(pump (heard c g) ((heard c g).window)).1.t.port,nextOf ((pump (heard c g) ((heard c g).window)).1.s),(pump (heard c g) ((heard c g).window)).1.r.next,16,windowOf ((pump (heard c g) ((heard c g).window)).1.r),⟨0,(-1),false,false,0,0⟩,(⟨#[]⟩ : ByteArray)⟩] : List Seg).map segCells) rfl) ?_
 intro g19
 refine kED [4,7,9,10] [(10,.v (.slice (some ⟨g19,0,none⟩) 1 1))] ?_
 refine kQ ?_
 refine kEU [4,5,6] [(5,.v (.slice (some ⟨g19,0,none⟩) 1 1)),(6,.v (.int .i64 (verdict c g)))] 2 ⟨44,conL (pump (heard c g) ((heard c g).window)).1 (.slice v14a ((pump (heard c g) ((heard c g).window)).1.r.held.length) v14c)⟩ ?_
 refine kR ?_
 have hmod : received c g = (((pump (heard c g) ((heard c g).window)).1),([⟨(pump (heard c g) ((heard c g).window)).1.t.my,(pump (heard c g) ((heard c g).window)).1.t.port,nextOf ((pump (heard c g) ((heard c g).window)).1.s),(pump (heard c g) ((heard c g).window)).1.r.next,16,windowOf ((pump (heard c g) ((heard c g).window)).1.r),⟨0,(-1),false,false,0,0⟩,(⟨#[]⟩ : ByteArray)⟩] : List Seg),(verdict c g)) := by first | exact received_drop (by assumption) (by assumption) (by assumption) (by assumption) | exact received_seg hv5 (by assumption) hpn (by assumption) | (simp [received,answered,ackOf, *]; done) | grind [received,answered,ackOf]
 exact ⟨[.agg (conL (pump (heard c g) ((heard c g).window)).1 (.slice v14a ((pump (heard c g) ((heard c g).window)).1.r.held.length) v14c)).toArray,.slice (some ⟨g19,0,none⟩) 1 1,.int .i64 (verdict c g)],by kernel_rfl,fun w' hb hf ha => by rw [hmod]; exact xo2 ((v14a,v14c),(((some ⟨g19,0,none⟩) : Option Addr),1)) rfl rfl (pO (hf _ m1) hB) (pR (hf _ m0) hB) (Apart.sub2 ha (i := 1) (j := 0) rfl rfl (by decide) rfl (fun b h => h) (fun b h => rowF_blk h)) hb⟩
 have h18p := neF h18
 refine kK ?_
 refine kQ ?_
 refine kEU [4,5,6] [(5,.v (.slice v15a ((pump (heard c g) ((heard c g).window)).2.length) v15c)),(6,.v (.int .i64 (verdict c g)))] 2 ⟨44,conL (pump (heard c g) ((heard c g).window)).1 (.slice v14a ((pump (heard c g) ((heard c g).window)).1.r.held.length) v14c)⟩ ?_
 refine kR ?_
 have hmod : received c g = (((pump (heard c g) ((heard c g).window)).1),((pump (heard c g) ((heard c g).window)).2),(verdict c g)) := by first | exact received_drop (by assumption) (by assumption) (by assumption) (by assumption) | exact received_seg hv5 (by assumption) hpn (by assumption) | (simp [received,answered,ackOf, *]; done) | grind [received,answered,ackOf]
 exact ⟨[.agg (conL (pump (heard c g) ((heard c g).window)).1 (.slice v14a ((pump (heard c g) ((heard c g).window)).1.r.held.length) v14c)).toArray,.slice v15a ((pump (heard c g) ((heard c g).window)).2.length) v15c,.int .i64 (verdict c g)],by kernel_rfl,fun w' hb hf ha => by rw [hmod]; exact xo2 ((v14a,v14c),(v15a,v15c)) rfl rfl (pO (hf _ m0) hB) (pO (hf _ m1) hB) (Apart.sub2 ha (i := 0) (j := 1) rfl rfl (by decide) rfl (fun b h => h) (fun b h => h)) hb⟩
 have h17p := eqF h17
 refine kED [4,7,9,10,68] [(68,.v (.bool false))] ?_
 refine kN ?_
 refine kK ?_
 refine kQ ?_
 refine kEU [4,5,6] [(5,.v (.slice v15a ((pump (heard c g) ((heard c g).window)).2.length) v15c)),(6,.v (.int .i64 (verdict c g)))] 2 ⟨44,conL (pump (heard c g) ((heard c g).window)).1 (.slice v14a ((pump (heard c g) ((heard c g).window)).1.r.held.length) v14c)⟩ ?_
 refine kR ?_
 have hmod : received c g = (((pump (heard c g) ((heard c g).window)).1),((pump (heard c g) ((heard c g).window)).2),(verdict c g)) := by first | exact received_drop (by assumption) (by assumption) (by assumption) (by assumption) | exact received_seg hv5 (by assumption) hpn (by assumption) | (simp [received,answered,ackOf, *]; done) | grind [received,answered,ackOf]
 exact ⟨[.agg (conL (pump (heard c g) ((heard c g).window)).1 (.slice v14a ((pump (heard c g) ((heard c g).window)).1.r.held.length) v14c)).toArray,.slice v15a ((pump (heard c g) ((heard c g).window)).2.length) v15c,.int .i64 (verdict c g)],by kernel_rfl,fun w' hb hf ha => by rw [hmod]; exact xo2 ((v14a,v14c),(v15a,v15c)) rfl rfl (pO (hf _ m0) hB) (pO (hf _ m1) hB) (Apart.sub2 ha (i := 0) (j := 1) rfl rfl (by decide) rfl (fun b h => h) (fun b h => h)) hb⟩
 have h10p := eqF h10
 refine kK ?_
 refine kQ ?_
 refine kEU [4,5,6] [(5,.v (.slice none 0 0)),(6,.v (.int .i64 (verdict c g)))] 2 ⟨44,conL c (.slice v1a c.r.held.length v1c)⟩ ?_
 refine kR ?_
 have hmod : received c g = (c,[],(verdict c g)) := by first | exact received_drop (by assumption) (by assumption) (by assumption) (by assumption) | exact received_seg hv5 (by assumption) hpn (by assumption) | (simp [received,answered,ackOf, *]; done) | grind [received,answered,ackOf]
 exact ⟨[.agg (conL c (.slice v1a c.r.held.length v1c)).toArray,.slice none 0 0,.int .i64 (verdict c g)],by kernel_rfl,fun w' hb hf ha => by rw [hmod]; exact xo2 ((v1a,v1c),(none,0)) rfl rfl (pO (hf _ m0) hB) ⟨.inl ⟨rfl,_,rfl⟩,fun b hb => (hb.1 rfl).elim⟩ (apart_nil2 rfl) hb⟩
 have h3p := eqF h3
 refine kG ?_
 refine kED [2,3,4,7,8,16,24] [(24,.v (.bool ((verdict c g) == 4)))] ?_
 refine kC ((verdict c g) == 4) (fun h20 => ?_) (fun h20 => ?_)
 have h20p := eqT h20
 refine kS ?_
 refine xw_joinF (α := {zz : Int // (fun (tm : Int) => tm = if verdict c g = 4 ∧ c.state = 7 ∧ hasF g.flags 1 = true then 4 else c.timer) zz}) (fun zz => (fun (tm : Int) => (⟨[(2,.p 0 0),(4,.p 2 0),(7,.v (.int .i64 (verdict c g))),(8,.p 3 0)],[⟨44,conL c (.slice Acrh c.r.held.length Ccrh)⟩,⟨50,segL g⟩,⟨44,conZ⟩,⟨44,conL { c with timer := tm } (.slice v1a c.r.held.length v1c)⟩],[],[ownF w.heap.size (.slice v1a c.r.held.length v1c) 2 (c.r.held.map pceCells),slF (.slice Acrh c.r.held.length Ccrh) 2 (c.r.held.map pceCells)]⟩ : St)) zz.1) ?_ ?_
 refine kQ ?_
 refine kRD 3 [2,3,4,7,8,29] [(29,.v (.bool ((verdict c g) == 4)))] ?_
 refine kP 29 ((verdict c g) == 4) (fun h21 => ?_) (fun h21 => ?_)
 have h21p := eqT h21
 refine kRD 5 [2,3,4,7,8,34] [(34,.v (.bool (c.state == 7)))] ?_
 refine kP 34 (c.state == 7) (fun h22 => ?_) (fun h22 => ?_)
 have h22p := eqT h22
 refine kCS 1 [2,4,7,8,34,35] [(2,.p 0 0),(4,.p 2 0),(7,.v (.int .i64 (verdict c g))),(8,.p 3 0),(34,.v (.bool true)),(35,.v (.agg (segL g).toArray))] 44 [.agg (segL g).toArray,.int .i64 1] (some 36) rfl (xc_b fun ww hf => iHas_c g.src g.dst g.seq g.ack g.flags g.window g.o.mss g.o.scale g.o.sack g.o.stamp g.o.val g.o.echo g.body 1 ww ) ?_
 intro _
 refine kED [2,4,7,8,37] [(37,.v (.bool (hasF g.flags 1)))] ?_
 refine kC (hasF g.flags 1) (fun h23 => ?_) (fun h23 => ?_)
 refine kG ?_
 refine kEU [2,4,7,8] [] 3 ⟨44,conL { c with timer := 4 } (.slice v1a c.r.held.length v1c)⟩ ?_
 exact ⟨⟨(4),(by first | (rw [if_neg (by rintro ⟨q1,q2,q3⟩; omega)]; done) | (rw [if_neg (by rintro ⟨q1,q2,q3⟩; simp_all; done)]; done) | (rw [if_pos ⟨by omega,by omega,by assumption⟩]; done))⟩,kF 4 0 [2,4,7,8]⟩
 refine kK ?_
 exact ⟨⟨(c.timer),(by first | (rw [if_neg (by rintro ⟨q1,q2,q3⟩; omega)]; done) | (rw [if_neg (by rintro ⟨q1,q2,q3⟩; simp_all; done)]; done) | (rw [if_pos ⟨by omega,by omega,by assumption⟩]; done))⟩,kF 4 0 [2,4,7,8]⟩
 have h22p := eqF h22
 refine kES [2,4,7,8,37] [(2,.p 0 0),(4,.p 2 0),(7,.v (.int .i64 (verdict c g))),(8,.p 3 0),(37,.v (.bool false))] ?_
 refine kN ?_
 refine kK ?_
 exact ⟨⟨(c.timer),(by first | (rw [if_neg (by rintro ⟨q1,q2,q3⟩; omega)]; done) | (rw [if_neg (by rintro ⟨q1,q2,q3⟩; simp_all; done)]; done) | (rw [if_pos ⟨by omega,by omega,by assumption⟩]; done))⟩,kF 4 0 [2,4,7,8]⟩
 have h21p := eqF h21
 refine kED [2,4,7,8,37] [(37,.v (.bool false))] ?_
 refine kN ?_
 refine kK ?_
 exact ⟨⟨(c.timer),(by first | (rw [if_neg (by rintro ⟨q1,q2,q3⟩; omega)]; done) | (rw [if_neg (by rintro ⟨q1,q2,q3⟩; simp_all; done)]; done) | (rw [if_pos ⟨by omega,by omega,by assumption⟩]; done))⟩,kF 4 0 [2,4,7,8]⟩
 rintro ⟨tm,htm⟩
 try dsimp only
 try dsimp only at htm
 refine kS ?_
 refine xw_joinE (α := Nat) (fun y => (fun (g25 : Nat) => (⟨[(4,.p 2 0),(5,.v (.slice (some ⟨g25,0,none⟩) 1 1)),(6,.v (.int .i64 (verdict c g)))],[⟨44,conL c (.slice Acrh c.r.held.length Ccrh)⟩,⟨50,segL g⟩,⟨44,conL { c with timer := tm } (.slice v1a c.r.held.length v1c)⟩,⟨44,conL { c with timer := tm } (.slice v1a c.r.held.length v1c)⟩],[],[rowF w.heap.size 50 13 (.slice (some ⟨g25,0,none⟩) 1 1) (([⟨c.t.my,c.t.port,nextOf c.s,c.r.next,16,windowOf c.r,⟨0,(-1),false,false,0,0⟩,(⟨#[]⟩ : ByteArray)⟩] : List Seg).map segCells),ownF w.heap.size (.slice v1a c.r.held.length v1c) 2 (c.r.held.map pceCells),slF (.slice Acrh c.r.held.length Ccrh) 2 (c.r.held.map pceCells)]⟩ : St)) y) ?_ ?_
 refine xe_region0 [true,true,false,true] (by kernel_rfl) (fun ρ σ => ?_)
 refine kTS [0,1,4] [43,40,39,4] 5 [(43,.v (.int .i64 (verdict c g))),(40,.v (.agg (conL c (.slice Acrh c.r.held.length Ccrh)).toArray)),(39,.v (.agg (conL { c with timer := tm } (.slice v1a c.r.held.length v1c)).toArray)),(4,.p 2 0)] ?_
 refine kA [2] ?_
 refine kSC 2 45 [.agg (conL c (.slice Acrh c.r.held.length Ccrh)).toArray] (some 41) rfl (xc_b fun ww hf => iAckOf_c c.t.ip c.t.port c.t.my c.state c.s.una c.s.data c.s.sent c.s.fin c.s.finSent c.s.done c.r.next c.r.data c.r.held (.slice Acrh c.r.held.length Ccrh) c.r.fin c.r.done c.window c.most c.o.mss c.o.scale c.o.sack c.o.stamp c.o.val c.o.echo c.timer c.tries ww (by omega)) ?_
 intro _
 refine kA [3,5] ⟨?_,?_⟩
 refine kSH 3 rfl (under_t (under_t (under_f rfl (under_t under_nil)))) (hv_build (e := 50) (K := 13) (bytes := 104) [.agg #[.int .i64 c.t.my,.int .i64 c.t.port,.int .i64 (nextOf c.s),.int .i64 c.r.next,.int .i64 16,.int .i64 (windowOf c.r),.int .i64 0,.int .i64 (-1),.bool false,.bool false,.int .i64 0,.int .i64 0,.string (⟨#[]⟩ : ByteArray)]] rfl (by kernel_rfl) (by kernel_rfl) (by kernel_rfl) (by kernel_rfl) (by kernel_rfl) (rs := ([⟨c.t.my,c.t.port,nextOf c.s,c.r.next,16,windowOf c.r,⟨0,(-1),false,false,0,0⟩,(⟨#[]⟩ : ByteArray)⟩] : List Seg).map segCells) rfl) ?_
 intro g25
 refine kA [5] ?_
 refine kSS 5 2 0 (conL { c with timer := tm } (.slice v1a c.r.held.length v1c)) rfl ?_
 refine kTS [6,7] [6,5,4] 0 [(6,.v (.int .i64 (verdict c g))),(5,.v (.slice (some ⟨g25,0,none⟩) 1 1)),(4,.p 2 0)] ?_
 refine kZ ?_
 exact ⟨(g25),kF 4 0 [4,5,6]⟩
 refine kSS 5 2 0 (conL { c with timer := tm } (.slice v1a c.r.held.length v1c)) rfl ?_
 refine kA [3] ?_
 refine kSH 3 rfl (under_t (under_t (under_f rfl (under_t under_nil)))) (hv_build (e := 50) (K := 13) (bytes := 104) [.agg #[.int .i64 c.t.my,.int .i64 c.t.port,.int .i64 (nextOf c.s),.int .i64 c.r.next,.int .i64 16,.int .i64 (windowOf c.r),.int .i64 0,.int .i64 (-1),.bool false,.bool false,.int .i64 0,.int .i64 0,.string (⟨#[]⟩ : ByteArray)]] rfl (by kernel_rfl) (by kernel_rfl) (by kernel_rfl) (by kernel_rfl) (by kernel_rfl) (rs := ([⟨c.t.my,c.t.port,nextOf c.s,c.r.next,16,windowOf c.r,⟨0,(-1),false,false,0,0⟩,(⟨#[]⟩ : ByteArray)⟩] : List Seg).map segCells) rfl) ?_
 intro g27
 refine kTS [6,7] [6,5,4] 0 [(6,.v (.int .i64 (verdict c g))),(5,.v (.slice (some ⟨g27,0,none⟩) 1 1)),(4,.p 2 0)] ?_
 refine kZ ?_
 exact ⟨(g27),kF 4 0 [4,5,6]⟩
 intro g25
 refine kR ?_
 have hmod : received c g = (({ c with timer := tm }),([⟨c.t.my,c.t.port,nextOf c.s,c.r.next,16,windowOf c.r,⟨0,(-1),false,false,0,0⟩,(⟨#[]⟩ : ByteArray)⟩] : List Seg),(verdict c g)) := by first | (have hv4 : verdict c g = 4 := (by assumption); exact (received_ack hv4 htm).trans (by rw [hv4]; first | done | rfl)) | (have hv3 : verdict c g = 3 := (by assumption); exact (received_chal hv3 htm).trans (by rw [hv3]; first | done | rfl))
 exact ⟨[.agg (conL { c with timer := tm } (.slice v1a c.r.held.length v1c)).toArray,.slice (some ⟨g25,0,none⟩) 1 1,.int .i64 (verdict c g)],by kernel_rfl,fun w' hb hf ha => by rw [hmod]; exact xo2 ((v1a,v1c),(((some ⟨g25,0,none⟩) : Option Addr),1)) rfl rfl (pO (hf _ m1) hB) (pR (hf _ m0) hB) (Apart.sub2 ha (i := 1) (j := 0) rfl rfl (by decide) rfl (fun b h => h) (fun b h => rowF_blk h)) hb⟩
 have h20p := eqF h20
 refine kQ ?_
 refine kED [2,3,4,7,8,44] [(44,.v (.bool ((verdict c g) == 5)))] ?_
 refine kC ((verdict c g) == 5) (fun h28 => ?_) (fun h28 => ?_)
 have h28p := eqT h28
 refine kQ ?_
 refine kCD 2 [3,4,7,8,46,47] [(46,.v (.agg (conL c (.slice Acrh c.r.held.length Ccrh)).toArray)),(47,.v (.agg (segL g).toArray))] 27 [.agg (conL c (.slice Acrh c.r.held.length Ccrh)).toArray,.agg (segL g).toArray] (some 48) rfl (xc_r fun ww hw hf => yiHeard_c c (.slice Acrh c.r.held.length Ccrh) g ww (hf _ m1) (by assumption) (by omega) (by assumption) (by omega) w.heap.size hw) ?_
 rintro ⟨v29a,v29c⟩
 have hv5 : verdict c g = 5 := by have := verdict_rng c g; omega
 have hhw := heard_w hv5
 have hz30 := heard_sz (H := 1048576) (T := 1048576) (D := 4611686018427387904) (c := c) (g := g) (by assumption) (by assumption) (by assumption) (by omega) (by omega) (by omega)
 obtain ⟨hz30a,hz30b,hz30c⟩ := hz30
 refine kEF [3,4,7,8] ⟨[(3,.p 1 0),(4,.p 2 0),(7,.v (.int .i64 (verdict c g))),(8,.p 3 0)],[⟨44,conL c (.slice Acrh c.r.held.length Ccrh)⟩,⟨50,segL g⟩,⟨44,conZ⟩,⟨44,conL (heard c g) (.slice v29a ((heard c g).r.held.length) v29c)⟩],[],[ownF w.heap.size (.slice v29a ((heard c g).r.held.length) v29c) 2 ((heard c g).r.held.map pceCells),ownF w.heap.size (.slice v1a c.r.held.length v1c) 2 (c.r.held.map pceCells),slF (.slice Acrh c.r.held.length Ccrh) 2 (c.r.held.map pceCells)]⟩ ?_
 refine kS ?_
 refine kQ ?_
 refine kED [3,4,7,8,51] [(51,.v (.bool (((heard c g).state) == 8)))] ?_
 refine kC (((heard c g).state) == 8) (fun h31 => ?_) (fun h31 => ?_)
 have h31p := eqT h31
 refine kQ ?_
 refine kEU [4,5,6] [(5,.v (.slice none 0 0)),(6,.v (.int .i64 (verdict c g)))] 2 ⟨44,conL (heard c g) (.slice v29a ((heard c g).r.held.length) v29c)⟩ ?_
 refine kR ?_
 have hmod : received c g = ((heard c g),[],(verdict c g)) := by first | exact received_drop (by assumption) (by assumption) (by assumption) (by assumption) | exact received_seg hv5 (by assumption) hpn (by assumption) | (simp [received,answered,ackOf, *]; done) | grind [received,answered,ackOf]
 exact ⟨[.agg (conL (heard c g) (.slice v29a ((heard c g).r.held.length) v29c)).toArray,.slice none 0 0,.int .i64 (verdict c g)],by kernel_rfl,fun w' hb hf ha => by rw [hmod]; exact xo2 ((v29a,v29c),(none,0)) rfl rfl (pO (hf _ m0) hB) ⟨.inl ⟨rfl,_,rfl⟩,fun b hb => (hb.1 rfl).elim⟩ (apart_nil2 rfl) hb⟩
 have h31p := eqF h31
 refine kK ?_
 refine kQ ?_
 refine kCD 3 [3,4,7,55,57] [(55,.v (.agg (conL (heard c g) (.slice v29a ((heard c g).r.held.length) v29c)).toArray)),(57,.v (.int .i64 ((heard c g).window)))] 46 [.agg (conL (heard c g) (.slice v29a ((heard c g).r.held.length) v29c)).toArray,.int .i64 ((heard c g).window)] (some 58) rfl (xc_r fun ww hw hf => yiPump_c (heard c g) (.slice v29a ((heard c g).r.held.length) v29c) ((heard c g).window) ww (Own.sl (hf _ m0)) (by assumption) (by assumption) (by omega) (by omega) w.heap.size hw) ?_
 rintro ⟨⟨v32a,v32c⟩,⟨v33a,v33c⟩⟩
 have hbd34 : (pump (heard c g) ((heard c g).window)).1.r.held.length ≤ 1048576 ∧ (pump (heard c g) ((heard c g).window)).2.length ≤ 49 := pump_bd _ _  (by omega)
 have hbd34a := hbd34.1; have hbd34b := hbd34.2
 refine kEA [3,4,7,9,10] [(9,.p 4 0),(10,.v (.slice v33a ((pump (heard c g) ((heard c g).window)).2.length) v33c))] [⟨44,conL (pump (heard c g) ((heard c g).window)).1 (.slice v32a ((pump (heard c g) ((heard c g).window)).1.r.held.length) v32c)⟩] ?_
 refine kS ?_
 refine kQ ?_
 refine kRD 4 [3,4,7,9,10,64] [(64,.v (.bool ((((pump (heard c g) ((heard c g).window)).2.length : Nat) : Int) == 0)))] ?_
 refine kP 64 ((((pump (heard c g) ((heard c g).window)).2.length : Nat) : Int) == 0) (fun h35 => ?_) (fun h35 => ?_)
 have h35p := eqT h35
 have hnil : (pump (heard c g) (heard c g).window).2 = [] := List.length_eq_zero_iff.1 (by have := h35; simp at this; first | omega | simp_all)
 have hpn := pump_none hnil
 have hpz : (pump (heard c g) (heard c g).window).1.r.data.size ≤ 4611686018427387904 := by rw [pump_rr]; omega
 refine kCD 1 [4,7,9,10,64,65] [(64,.v (.bool true)),(65,.v (.agg (segL g).toArray))] 47 [.agg (segL g).toArray] (some 66) rfl (xc_b fun ww hf => iSegmentLen_c g.src g.dst g.seq g.ack g.flags g.window g.o.mss g.o.scale g.o.sack g.o.stamp g.o.val g.o.echo g.body ww (by omega)) ?_
 intro _
 refine kED [4,7,9,10,68] [(68,.v (.bool ((segLen g) != 0)))] ?_
 refine kC ((segLen g) != 0) (fun h36 => ?_) (fun h36 => ?_)
 have h36p := neT h36
 refine kG ?_
 refine kCD 1 [4,7,9,10,69] [(69,.v (.agg (conL (pump (heard c g) ((heard c g).window)).1 (.slice v32a ((pump (heard c g) ((heard c g).window)).1.r.held.length) v32c)).toArray))] 45 [.agg (conL (pump (heard c g) ((heard c g).window)).1 (.slice v32a ((pump (heard c g) ((heard c g).window)).1.r.held.length) v32c)).toArray] (some 70) rfl (xc_b fun ww hf => iAckOf_c ((pump (heard c g) ((heard c g).window)).1.t.ip) ((pump (heard c g) ((heard c g).window)).1.t.port) ((pump (heard c g) ((heard c g).window)).1.t.my) ((pump (heard c g) ((heard c g).window)).1.state) ((pump (heard c g) ((heard c g).window)).1.s.una) ((pump (heard c g) ((heard c g).window)).1.s.data) ((pump (heard c g) ((heard c g).window)).1.s.sent) ((pump (heard c g) ((heard c g).window)).1.s.fin) ((pump (heard c g) ((heard c g).window)).1.s.finSent) ((pump (heard c g) ((heard c g).window)).1.s.done) ((pump (heard c g) ((heard c g).window)).1.r.next) ((pump (heard c g) ((heard c g).window)).1.r.data) ((pump (heard c g) ((heard c g).window)).1.r.held) (.slice v32a ((pump (heard c g) ((heard c g).window)).1.r.held.length) v32c) ((pump (heard c g) ((heard c g).window)).1.r.fin) ((pump (heard c g) ((heard c g).window)).1.r.done) ((pump (heard c g) ((heard c g).window)).1.window) ((pump (heard c g) ((heard c g).window)).1.most) ((pump (heard c g) ((heard c g).window)).1.o.mss) ((pump (heard c g) ((heard c g).window)).1.o.scale) ((pump (heard c g) ((heard c g).window)).1.o.sack) ((pump (heard c g) ((heard c g).window)).1.o.stamp) ((pump (heard c g) ((heard c g).window)).1.o.val) ((pump (heard c g) ((heard c g).window)).1.o.echo) ((pump (heard c g) ((heard c g).window)).1.timer) ((pump (heard c g) ((heard c g).window)).1.tries) ww (by omega)) ?_
 intro _
 refine kHD 0 [4,7,9,10,70] [] rfl (hv_build (e := 50) (K := 13) (bytes := 104) [.agg #[.int .i64 ((pump (heard c g) ((heard c g).window)).1.t.my),.int .i64 ((pump (heard c g) ((heard c g).window)).1.t.port),.int .i64 (nextOf ((pump (heard c g) ((heard c g).window)).1.s)),.int .i64 ((pump (heard c g) ((heard c g).window)).1.r.next),.int .i64 16,.int .i64 (windowOf ((pump (heard c g) ((heard c g).window)).1.r)),.int .i64 0,.int .i64 (-1),.bool false,.bool false,.int .i64 0,.int .i64 0,.string (⟨#[]⟩ : ByteArray)]] rfl (by kernel_rfl) (by kernel_rfl) (by kernel_rfl) (by kernel_rfl) (by kernel_rfl) (rs := ([⟨(pump (heard c g) ((heard c g).window)).1.t.my,(pump (heard c g) ((heard c g).window)).1.t.port,nextOf ((pump (heard c g) ((heard c g).window)).1.s),(pump (heard c g) ((heard c g).window)).1.r.next,16,windowOf ((pump (heard c g) ((heard c g).window)).1.r),⟨0,(-1),false,false,0,0⟩,(⟨#[]⟩ : ByteArray)⟩] : List Seg).map segCells) rfl) ?_
 intro g37
 refine kED [4,7,9,10] [(10,.v (.slice (some ⟨g37,0,none⟩) 1 1))] ?_
 refine kQ ?_
 refine kEU [4,5,6] [(5,.v (.slice (some ⟨g37,0,none⟩) 1 1)),(6,.v (.int .i64 (verdict c g)))] 2 ⟨44,conL (pump (heard c g) ((heard c g).window)).1 (.slice v32a ((pump (heard c g) ((heard c g).window)).1.r.held.length) v32c)⟩ ?_
 refine kR ?_
 have hmod : received c g = (((pump (heard c g) ((heard c g).window)).1),([⟨(pump (heard c g) ((heard c g).window)).1.t.my,(pump (heard c g) ((heard c g).window)).1.t.port,nextOf ((pump (heard c g) ((heard c g).window)).1.s),(pump (heard c g) ((heard c g).window)).1.r.next,16,windowOf ((pump (heard c g) ((heard c g).window)).1.r),⟨0,(-1),false,false,0,0⟩,(⟨#[]⟩ : ByteArray)⟩] : List Seg),(verdict c g)) := by first | exact received_drop (by assumption) (by assumption) (by assumption) (by assumption) | exact received_seg hv5 (by assumption) hpn (by assumption) | (simp [received,answered,ackOf, *]; done) | grind [received,answered,ackOf]
 exact ⟨[.agg (conL (pump (heard c g) ((heard c g).window)).1 (.slice v32a ((pump (heard c g) ((heard c g).window)).1.r.held.length) v32c)).toArray,.slice (some ⟨g37,0,none⟩) 1 1,.int .i64 (verdict c g)],by kernel_rfl,fun w' hb hf ha => by rw [hmod]; exact xo2 ((v32a,v32c),(((some ⟨g37,0,none⟩) : Option Addr),1)) rfl rfl (pO (hf _ m1) hB) (pR (hf _ m0) hB) (Apart.sub2 ha (i := 1) (j := 0) rfl rfl (by decide) rfl (fun b h => h) (fun b h => rowF_blk h)) hb⟩
 have h36p := neF h36
 refine kK ?_
 refine kQ ?_
 refine kEU [4,5,6] [(5,.v (.slice v33a ((pump (heard c g) ((heard c g).window)).2.length) v33c)),(6,.v (.int .i64 (verdict c g)))] 2 ⟨44,conL (pump (heard c g) ((heard c g).window)).1 (.slice v32a ((pump (heard c g) ((heard c g).window)).1.r.held.length) v32c)⟩ ?_
 refine kR ?_
 have hmod : received c g = (((pump (heard c g) ((heard c g).window)).1),((pump (heard c g) ((heard c g).window)).2),(verdict c g)) := by first | exact received_drop (by assumption) (by assumption) (by assumption) (by assumption) | exact received_seg hv5 (by assumption) hpn (by assumption) | (simp [received,answered,ackOf, *]; done) | grind [received,answered,ackOf]
 exact ⟨[.agg (conL (pump (heard c g) ((heard c g).window)).1 (.slice v32a ((pump (heard c g) ((heard c g).window)).1.r.held.length) v32c)).toArray,.slice v33a ((pump (heard c g) ((heard c g).window)).2.length) v33c,.int .i64 (verdict c g)],by kernel_rfl,fun w' hb hf ha => by rw [hmod]; exact xo2 ((v32a,v32c),(v33a,v33c)) rfl rfl (pO (hf _ m0) hB) (pO (hf _ m1) hB) (Apart.sub2 ha (i := 0) (j := 1) rfl rfl (by decide) rfl (fun b h => h) (fun b h => h)) hb⟩
 have h35p := eqF h35
 refine kED [4,7,9,10,68] [(68,.v (.bool false))] ?_
 refine kN ?_
 refine kK ?_
 refine kQ ?_
 refine kEU [4,5,6] [(5,.v (.slice v33a ((pump (heard c g) ((heard c g).window)).2.length) v33c)),(6,.v (.int .i64 (verdict c g)))] 2 ⟨44,conL (pump (heard c g) ((heard c g).window)).1 (.slice v32a ((pump (heard c g) ((heard c g).window)).1.r.held.length) v32c)⟩ ?_
 refine kR ?_
 have hmod : received c g = (((pump (heard c g) ((heard c g).window)).1),((pump (heard c g) ((heard c g).window)).2),(verdict c g)) := by first | exact received_drop (by assumption) (by assumption) (by assumption) (by assumption) | exact received_seg hv5 (by assumption) hpn (by assumption) | (simp [received,answered,ackOf, *]; done) | grind [received,answered,ackOf]
 exact ⟨[.agg (conL (pump (heard c g) ((heard c g).window)).1 (.slice v32a ((pump (heard c g) ((heard c g).window)).1.r.held.length) v32c)).toArray,.slice v33a ((pump (heard c g) ((heard c g).window)).2.length) v33c,.int .i64 (verdict c g)],by kernel_rfl,fun w' hb hf ha => by rw [hmod]; exact xo2 ((v32a,v32c),(v33a,v33c)) rfl rfl (pO (hf _ m0) hB) (pO (hf _ m1) hB) (Apart.sub2 ha (i := 0) (j := 1) rfl rfl (by decide) rfl (fun b h => h) (fun b h => h)) hb⟩
 have h28p := eqF h28
 refine kK ?_
 refine kQ ?_
 refine kEU [4,5,6] [(5,.v (.slice none 0 0)),(6,.v (.int .i64 (verdict c g)))] 2 ⟨44,conL c (.slice v1a c.r.held.length v1c)⟩ ?_
 refine kR ?_
 have hmod : received c g = (c,[],(verdict c g)) := by first | exact received_drop (by assumption) (by assumption) (by assumption) (by assumption) | exact received_seg hv5 (by assumption) hpn (by assumption) | (simp [received,answered,ackOf, *]; done) | grind [received,answered,ackOf]
 exact ⟨[.agg (conL c (.slice v1a c.r.held.length v1c)).toArray,.slice none 0 0,.int .i64 (verdict c g)],by kernel_rfl,fun w' hb hf ha => by rw [hmod]; exact xo2 ((v1a,v1c),(none,0)) rfl rfl (pO (hf _ m0) hB) ⟨.inl ⟨rfl,_,rfl⟩,fun b hb => (hb.1 rfl).elim⟩ (apart_nil2 rfl) hb⟩
end Go.Proofs.YtebgmdiejgcoiaaGreat
