/- Contracts that this law needs, part 5. -/
import Derived.Test.YtebgmdiejgcoiaaGreatZ4
namespace Go.Proofs.YtebgmdiejgcoiaaGreat
open Go.RowKit
set_option linter.unusedVariables false
set_option linter.unusedSimpArgs false
set_option maxRecDepth 100000
set_option maxHeartbeats 2000000

theorem yiArrived_c (r : Rcv) (r_heldV : Value) (seq : Int) (text : ByteArray) (fin : Bool) (w : World) (hl_r_heldV : Sl w r_heldV 2 (r.held.map pC)) (hkn : r.held.length ≤ 1048576) (hm : ∀ p ∈ r.held, p.text.size ≤ 1048576) (hsz : r.data.size ≤ 4611686018427387904) (hts : text.size ≤ 4611686018427387904) (B : Nat) (hB : B ≤ w.heap.size) : Calls Tryz.prog 72 #[.agg (ah r r_heldV).toArray, iI seq, .string text, .bool fin] w fun e w' => XRs w w' e (α := Option Addr × Nat) (fun y => .agg (ah (av r seq text fin) (.slice y.1 ((av r seq text fin).held.length) y.2)).toArray) (fun y => [aF B (.slice y.1 ((av r seq text fin).held.length) y.2) 2 ((av r seq text fin).held.map pC)]) := by
 obtain ⟨Arh,Crh,hvrh⟩ := hl_r_heldV.form
 rw [List.length_map] at hvrh; subst hvrh
 have hnrh := hl_r_heldV.len; rw [List.length_map] at hnrh
 have hqrh := Sl.capLe hl_r_heldV
 refine ck (args := [.agg (ah r (.slice Arh r.held.length Crh)).toArray,iI seq,.string text,.bool fin]) (fn := Tryz.f72) [c7 (.slice Arh r.held.length Crh) 2 (r.held.map pC)] Tryz.func72 rfl Tryz.ntmps72 rfl (by simp only [List.mem_cons,List.not_mem_nil,or_false,forall_eq_or_imp,forall_eq]; exact ⟨rfl,hl_r_heldV⟩) ?_
 refine kQ <| c8 [1,2,3,4,8] ⟨[(1,aI seq),(2,.v (.string text)),(3,aB fin),(4,.p 0 0),(8,.p 1 0)],[⟨41,ah r (.slice Arh r.held.length Crh)⟩,⟨41,dl⟩],[],[c7 (.slice Arh r.held.length Crh) 2 (r.held.map pC)]⟩ <| kQ <| dy 1 [1,2,3,4,8,24] [(24,.v (.agg (ah r (.slice Arh r.held.length Crh)).toArray))] 98 [.agg (ah r (.slice Arh r.held.length Crh)).toArray] (some 25) rfl (cZ fun ww hw hf => iz r (.slice Arh r.held.length Crh) ww (hf _ m0) (by assumption) w.heap.size hw) ?_
 rintro ⟨v1a,v1c⟩
 refine i5 [1,2,3,4,8,9] [(9,.p 2 0)] [⟨41,ah r (.slice v1a r.held.length v1c)⟩] <| kS <| kQ <| dy 1 [1,2,3,4,8,9,26] [(26,.v (.agg (ah r (.slice Arh r.held.length Crh)).toArray))] 60 [.agg (ah r (.slice Arh r.held.length Crh)).toArray] (some 27) rfl (aA fun ww hf => yiReceiverOk_c r (.slice Arh r.held.length Crh) ww (hf _ m1) (by assumption) (by omega)) ?_
 intro _
 refine cA 2 [1,2,3,4,8,9,29] [(29,aB (!(rO r)))] <| kP 29 (!(rO r)) (fun h2 => ?_) (fun h2 => ?_)
 have h2n := bg h2
 refine aR [1,2,3,4,8,9,32] [(32,aB true)] <| kT <| kQ <| bf [8] [(8,.p 1 0)] 1 ⟨41,ah r (.slice v1a r.held.length v1c)⟩ ?_
 refine kR ?_
 have hmod : av r seq text fin = r := by first | exact du hrk (by assumption) (by rw [← hall,← hnf,hpc]; omega) | (unfold av; rw [if_neg (by grind)]; done) | (unfold av; rw [if_pos (by grind),← hall,← hnf,hpc,← hfp]; first | (rw [if_pos (by omega)]; done) | (rw [if_neg (by omega),if_pos (by first | omega | simp_all)]; done) | (rw [if_neg (by omega),if_neg (by first | omega | simp_all)]; done))
 exact ⟨[.agg (ah r (.slice v1a r.held.length v1c)).toArray],by kernel_rfl,fun w' hb hf ha => by rw [hmod]; exact im ((v1a,v1c)) rfl rfl (pO (hf _ m0) hB) hb⟩
 have h2n := aD h2
 have hrk := h2n
 obtain ⟨hf0,hf1,hf2,hf3,hf4,hheld⟩ := iu h2n
 have hwb := da r
 have hN := slotsOf_len r
 obtain ⟨W,hW⟩ : ∃ W : Nat,wO r = (W : Int) := ⟨(wO r).toNat,by omega⟩
 have hW2 : W ≤ 32 := by omega
 have hM : (if r.fin = -1 then wO r else r.fin) ≤ (W : Int) := by split <;> omega
 refine aR [1,2,3,4,8,9,32] [(32,aB r.done)] <| kC (r.done) (fun h3 => ?_) (fun h3 => ?_)
 refine kQ <| bf [8] [(8,.p 1 0)] 1 ⟨41,ah r (.slice v1a r.held.length v1c)⟩ <| kR ?_
 have hmod : av r seq text fin = r := by first | exact du hrk (by assumption) (by rw [← hall,← hnf,hpc]; omega) | (unfold av; rw [if_neg (by grind)]; done) | (unfold av; rw [if_pos (by grind),← hall,← hnf,hpc,← hfp]; first | (rw [if_pos (by omega)]; done) | (rw [if_neg (by omega),if_pos (by first | omega | simp_all)]; done) | (rw [if_neg (by omega),if_neg (by first | omega | simp_all)]; done))
 exact ⟨[.agg (ah r (.slice v1a r.held.length v1c)).toArray],by kernel_rfl,fun w' hb hf ha => by rw [hmod]; exact im ((v1a,v1c)) rfl rfl (pO (hf _ m0) hB) hb⟩
 refine kK <| kQ <| dy 1 [1,2,3,4,8,9,34] [(34,.v (.agg (ah r (.slice Arh r.held.length Crh)).toArray))] 95 [.agg (ah r (.slice Arh r.held.length Crh)).toArray] (some 35) rfl (aA fun ww hf => fD r.next r.data r.held (.slice Arh r.held.length Crh) r.fin r.done ww (by omega)) ?_
 intro _
 refine cA 1 [1,2,3,4,8,9,10] [(10,aI (wO r))] <| cJ [1,2,3,4,8,9,10] [(10,aI (wO r))] [(10,aI (W : Int))] (by rw [show (wO r) = (W : Int) from hW]) (by kernel_rfl) ?_
 refine aR [1,2,3,4,8,9,10] [] <| kQ <| kHD 1 [1,2,3,4,8,9,10,36] [(36,aI (W : Int))] rfl (hv_make (kl := .i64) (kc := .i64) (e := 5) (K := 1) (bytes := 1) (m := W) (z := .int .u8 0) (rs := (List.replicate W 0).map bR) rfl (by kernel_rfl) (by kernel_rfl) (by kernel_rfl) (by kernel_rfl) (by (try simp only [List.length_map,List.length_append,List.length_cons,List.length_nil,List.length_take,List.length_drop,maxLen]); omega) (by (try simp only [List.length_map,List.length_append,List.length_cons,List.length_nil,List.length_take,List.length_drop,maxLen]); omega) (by rw [List.map_replicate]; rfl)) ?_
 intro g4
 refine c8 [1,2,3,4,8,9,10,11] ⟨[(1,aI seq),(2,.v (.string text)),(3,aB fin),(4,.p 0 0),(8,.p 1 0),(9,.p 2 0),(10,aI (W : Int)),(11,.p 3 0)],[⟨41,ah r (.slice Arh r.held.length Crh)⟩,⟨41,dl⟩,⟨41,ah r (.slice v1a r.held.length v1c)⟩,⟨57,[.slice (some ⟨g4,0,none⟩) W W]⟩],[],[ap w.heap.size 5 1 (.slice (some ⟨g4,0,none⟩) W W) ((List.replicate W 0).map bR),aF w.heap.size (.slice v1a r.held.length v1c) 2 (r.held.map pC),c7 (.slice Arh r.held.length Crh) 2 (r.held.map pC)]⟩ <| kQ <| kHD 1 [1,2,3,4,8,9,10,11,38] [(38,aI (W : Int))] rfl (hv_make (kl := .i64) (kc := .i64) (e := 4) (K := 1) (bytes := 1) (m := W) (z := .bool false) (rs := (List.replicate W false).map cx) rfl (by kernel_rfl) (by kernel_rfl) (by kernel_rfl) (by kernel_rfl) (by (try simp only [List.length_map,List.length_append,List.length_cons,List.length_nil,List.length_take,List.length_drop,maxLen]); omega) (by (try simp only [List.length_map,List.length_append,List.length_cons,List.length_nil,List.length_take,List.length_drop,maxLen]); omega) (by rw [List.map_replicate]; rfl)) ?_
 intro g5
 refine i5 [1,2,3,4,8,9,10,11,12] [(12,.p 4 0)] [⟨122,[.slice (some ⟨g5,0,none⟩) W W]⟩] <| kS <| xw_pinB 12 122 [.slice (some ⟨g5,0,none⟩) W W] [⟨41,ah r (.slice Arh r.held.length Crh)⟩,⟨41,dl⟩,⟨41,ah r (.slice v1a r.held.length v1c)⟩,⟨57,[.slice (some ⟨g4,0,none⟩) W W]⟩] rfl (by kernel_rfl) (by kernel_rfl) ?_
 intro gh hgh hghn
 refine xw_pinB 11 57 [.slice (some ⟨g4,0,none⟩) W W] [⟨41,ah r (.slice Arh r.held.length Crh)⟩,⟨41,dl⟩,⟨41,ah r (.slice v1a r.held.length v1c)⟩] rfl (by kernel_rfl) (by kernel_rfl) ?_
 intro gd hgd hgdn
 refine xw_wk (wk_pick [1,0,2,3,4,5] [cy w.heap.size gh 122 [.slice (some ⟨g5,0,none⟩) W W],cy w.heap.size gd 57 [.slice (some ⟨g4,0,none⟩) W W],ap w.heap.size 4 1 (.slice (some ⟨g5,0,none⟩) W W) ((List.replicate W false).map cx),ap w.heap.size 5 1 (.slice (some ⟨g4,0,none⟩) W W) ((List.replicate W 0).map bR),aF w.heap.size (.slice v1a r.held.length v1c) 2 (r.held.map pC),c7 (.slice Arh r.held.length Crh) 2 (r.held.map pC)] (by kernel_rfl) (by kernel_rfl)) ?_
 refine xw_turnF (fs' := [ea w.heap.size gh gd g5 g4 122 57 4 5 W (List.replicate 33 (-1)),aF w.heap.size (.slice v1a r.held.length v1c) 2 (r.held.map pC),c7 (.slice Arh r.held.length Crh) 2 (r.held.map pC)]) (fun ρ σ w' h => by rw [ea,hvOf_start (by omega),dtOf_start (by omega)]; exact all_in (hs := [aF w.heap.size (.slice v1a r.held.length v1c) 2 (r.held.map pC),c7 (.slice Arh r.held.length Crh) 2 (r.held.map pC)]) (own4 rfl rfl rfl rfl) ρ σ w' h) ?_
 refine kG <| kOF 0 [1,2,3,4,8,9,10,11,12] ⟨[(1,aI seq),(2,.v (.string text)),(3,aB fin),(4,.p 0 0),(8,.p 1 0),(9,.p 2 0),(10,aI (W : Int)),(11,aP gd),(12,aP gh)],[⟨41,ah r (.slice Arh r.held.length Crh)⟩,⟨41,dl⟩,⟨41,ah r (.slice v1a r.held.length v1c)⟩],[],[ea w.heap.size gh gd g5 g4 122 57 4 5 W (List.replicate 33 (-1)),aF w.heap.size (.slice v1a r.held.length v1c) 2 (r.held.map pC),c7 (.slice Arh r.held.length Crh) 2 (r.held.map pC)]⟩ (.func (.func 116) #[] #[gP gh,gP gd]) rfl (fun _ _ _ ww hr => act_mkf [gP gh,gP gd] hr.1 rfl (by kernel_rfl) ww) ?_
 refine aR [1,2,3,4,8,9,10,11,12,13] [(13,.v (.func (.func 116) #[] #[gP gh,gP gd]))] <| kS <| kQ <| aR [1,2,3,4,8,9,10,11,12,13,42,43,44] [(42,.v (.slice Arh r.held.length Crh)),(43,aI ((r.held.length : Nat) : Int)),(44,aI 0)] ?_
 refine aZ <| cz (α := {x : Nat × List Int × Int // (fun (i : Nat) (l2 : List Int) (e : Int) => i ≤ r.held.length ∧ l2.length = 33 ∧ aL r = et l2 (r.held.drop i) ∧ cl (if r.fin = -1 then wO r else r.fin) e (r.held.drop i) = true ∧ 0 ≤ e ∧ e ≤ (W : Int) ∧ (∀ j,e.toNat ≤ j → j < 33 → l2[j]? = some (-1))) x.1 x.2.1 x.2.2}) (fun x => (fun (i : Nat) (l2 : List Int) (e : Int) => (⟨[(1,aI seq),(2,.v (.string text)),(3,aB fin),(4,.p 0 0),(8,.p 1 0),(9,.p 2 0),(10,aI (W : Int)),(11,aP gd),(12,aP gh),(13,.v (.func (.func 116) #[] #[gP gh,gP gd])),(42,.v (.slice Arh r.held.length Crh)),(43,aI ((r.held.length : Nat) : Int)),(44,aI (i : Int))],[⟨41,ah r (.slice Arh r.held.length Crh)⟩,⟨41,dl⟩,⟨41,ah r (.slice v1a r.held.length v1c)⟩],[],[ea w.heap.size gh gd g5 g4 122 57 4 5 W l2,aF w.heap.size (.slice v1a r.held.length v1c) 2 (r.held.map pC),c7 (.slice Arh r.held.length Crh) 2 (r.held.map pC)]⟩ : St)) x.1.1 x.1.2.1 x.1.2.2) (fun x => (fun (i : Nat) (l2 : List Int) (e : Int) => r.held.length - i) x.1.1 x.1.2.1 x.1.2.2) ⟨(0,(List.replicate 33 (-1)),0),⟨Nat.zero_le _,(by simp),rfl,rok_held hrk,Int.le_refl _,(by dsimp only; omega),(fun j h1 h2 => by rw [List.getElem?_replicate,if_pos h2])⟩⟩ (ei [0,1,2] <| kF 3 0 [1,2,3,4,8,9,10,11,12,13,42,43,44]) ?_
 rintro ⟨⟨i,l2,e⟩,hi,hl2,H2,hk,he0,heW,hfr⟩
 try dsimp only
 try dsimp only at hi hl2 H2 hk he0 heW hfr
 refine kQ <| aR [1,2,3,4,8,9,10,11,12,13,42,43,44,45] [(45,aB (decide ((i : Int) < ((r.held.length : Nat) : Int))))] <| kS <| kC (decide ((i : Int) < ((r.held.length : Nat) : Int))) (fun h6 => ?_) (fun h6 => ?_)
 have h6p := of_decide_eq_true h6
 have hlt2 : i < r.held.length := by simpa using h6
 obtain ⟨pp,hx⟩ : ∃ p,r.held[i]? = some p := ⟨_,List.getElem?_eq_getElem hlt2⟩
 have hin := hheld pp (List.mem_of_getElem? hx)
 obtain ⟨hst1,hst2,hst3⟩ := held_step hk hx
 have hpW : pp.off + (pp.text.size : Int) ≤ (W : Int) := Int.le_trans hst2 hM
 refine kK <| kS <| aZ <| kQ <| eM (kd := .i64) (T := 39) (e := 85) (K := 2) 0 [1,2,3,4,8,9,10,11,12,13,42,43,44] [] i [iI pp.off,.string pp.text] (c7 (.slice Arh r.held.length Crh) 2 (r.held.map pC)) (by kernel_rfl) rfl (by kernel_rfl) rfl rfl (by kernel_rfl) (by kernel_rfl) (by kernel_rfl) (by kernel_rfl) hlt2 (by simp) (fun w h => h) (fun b h => h) (by simp only [List.getElem?_map,hx]; rfl) ?_
 refine i5 [1,2,3,4,8,9,10,11,12,13,15,42,43,44] [(15,.p 3 0)] [⟨85,ff pp⟩] <| kQ <| aR [1,2,3,4,8,9,10,11,12,13,15,42,43,44,50,51] [(50,aI (pp.text.size : Int)),(51,aI 0)] <| aZ <| xw_wk (wkf (s' := ⟨[(1,aI seq),(2,.v (.string text)),(3,aB fin),(4,.p 0 0),(8,.p 1 0),(9,.p 2 0),(10,aI (W : Int)),(11,aP gd),(12,aP gh),(13,.v (.func (.func 116) #[] #[gP gh,gP gd])),(15,.p 3 0),(42,.v (.slice Arh r.held.length Crh)),(43,aI ((r.held.length : Nat) : Int)),(44,aI (i : Int)),(50,aI (pp.text.size : Int)),(51,aI 0)],[⟨41,ah r (.slice Arh r.held.length Crh)⟩,⟨41,dl⟩,⟨41,ah r (.slice v1a r.held.length v1c)⟩,⟨85,ff pp⟩],[],[ea w.heap.size gh gd g5 g4 122 57 4 5 W l2,aF w.heap.size (.slice v1a r.held.length v1c) 2 (r.held.map pC),c7 (.slice Arh r.held.length Crh) 2 (r.held.map pC)]⟩) 4 0 [1,2,3,4,8,9,10,11,12,13,15,42,43,44,50,51] (by kernel_rfl)) ?_
 refine cz (α := {x : Nat × List Int // (fun (q : Nat) (l3 : List Int) => q ≤ pp.text.size ∧ l3.length = 33 ∧ l3 = fK l2 pp.off.toNat pp.text q ∧ (∀ j,pp.off.toNat + q ≤ j → j < 33 → l3[j]? = some (-1))) x.1 x.2}) (fun x => (fun (q : Nat) (l3 : List Int) => (⟨[(1,aI seq),(2,.v (.string text)),(3,aB fin),(4,.p 0 0),(8,.p 1 0),(9,.p 2 0),(10,aI (W : Int)),(11,aP gd),(12,aP gh),(13,.v (.func (.func 116) #[] #[gP gh,gP gd])),(15,.p 3 0),(42,.v (.slice Arh r.held.length Crh)),(43,aI ((r.held.length : Nat) : Int)),(44,aI (i : Int)),(50,aI (pp.text.size : Int)),(51,aI (q : Int))],[⟨41,ah r (.slice Arh r.held.length Crh)⟩,⟨41,dl⟩,⟨41,ah r (.slice v1a r.held.length v1c)⟩,⟨85,ff pp⟩],[],[ea w.heap.size gh gd g5 g4 122 57 4 5 W l3,aF w.heap.size (.slice v1a r.held.length v1c) 2 (r.held.map pC),c7 (.slice Arh r.held.length Crh) 2 (r.held.map pC)]⟩ : St)) x.1.1 x.1.2) (fun x => (fun (q : Nat) (l3 : List Int) => pp.text.size - q) x.1.1 x.1.2) ⟨(0,l2),⟨Nat.zero_le _,hl2,rfl,(fun j h1 h2 => hfr j (by omega) h2)⟩⟩ (ei [0,1,2] <| kF 4 0 [1,2,3,4,8,9,10,11,12,13,15,42,43,44,50,51]) ?_
 rintro ⟨⟨q,l3⟩,hq,hl3,H3,hfr3⟩
 try dsimp only
 try dsimp only at hq hl3 H3 hfr3
 refine kQ <| aR [1,2,3,4,8,9,10,11,12,13,15,42,43,44,50,51,52] [(52,aB (decide ((q : Int) < (pp.text.size : Int))))] <| kS <| kC (decide ((q : Int) < (pp.text.size : Int))) (fun h7 => ?_) (fun h7 => ?_)
 have h7p := of_decide_eq_true h7
 have hlt3 : q < pp.text.size := by simpa using h7
 have hbr := fN pp.text q
 have hfz := hfr3 (pp.off.toNat + q) (Nat.le_refl _) (by omega)
 refine kK <| kS <| aZ <| kQ <| aR [1,2,3,4,8,9,10,11,12,13,15,16,42,43,44,50,51] [(16,aI (q : Int))] ?_
 refine bc [] (by kernel_rfl) (fun ρ σ => ?_)
 refine ca [0,1,2,3,4,5,6,7] [61,60,58,54,1,2,3,4,8,9,10,11,12,13,15,42,43,44,50,51] 2 [(61,aI (q : Int)),(60,.v (.string pp.text)),(58,aI (K6.wrap (pp.off + (q : Int)))),(54,.v (.func (.func 116) #[] #[gP gh,gP gd])),(1,aI seq),(2,.v (.string text)),(3,aB fin),(4,.p 0 0),(8,.p 1 0),(9,.p 2 0),(10,aI (W : Int)),(11,aP gd),(12,aP gh),(13,.v (.func (.func 116) #[] #[gP gh,gP gd])),(15,.p 3 0),(42,.v (.slice Arh r.held.length Crh)),(43,aI ((r.held.length : Nat) : Int)),(44,aI (i : Int)),(50,aI (pp.text.size : Int)),(51,aI (q : Int))] <| gx [61,60,58,54,1,2,3,4,8,9,10,11,12,13,15,42,43,44,50,51] [(58,aI (K6.wrap (pp.off + (q : Int))))] [(58,aI ((pp.off.toNat + q : Nat) : Int))] (by rw [show (K6.wrap (pp.off + (q : Int))) = ((pp.off.toNat + q : Nat) : Int) from by rw [ab (by omega) (by omega)]; omega]) (by kernel_rfl) ?_
 refine kX 8 (.int .u8 (ba pp.text q)) rfl (fun _ _ ww hA => act_tix (kd := .i64) (t := pp.text) q hA rfl rfl (by kernel_rfl) (by kernel_rfl) hlt3 ww) ?_
 refine kA [9] <| xs_callWC 9 116 [iI ((pp.off.toNat + q : Nat) : Int),.int .u8 (ba pp.text q),gP gh,gP gd] (some 63) 0 (ea w.heap.size gh gd g5 g4 122 57 4 5 W l3) rfl (by kernel_rfl) rfl (by kernel_rfl) rfl rfl (fun ww b h hb => arrF_lo h hb) (by kernel_rfl) (ax (ax (ax (ax ar)))) rfl (xcm_arr fun ww hw hf => arrStore_c w.heap.size gh gd g5 g4 W (pp.off.toNat + q) l3 (ba pp.text q) ww hw (hf (ea w.heap.size gh gd g5 g4 122 57 4 5 W l3) (by simp)) (by omega) (by omega) hbr) ?_
 intro _
 refine kZ <| kG <| cA 2 [1,2,3,4,8,9,10,11,12,13,15,42,43,44,50,51] [(51,aI (K6.wrap ((q : Int) + 1)))] <| cJ [1,2,3,4,8,9,10,11,12,13,15,42,43,44,50,51] [(51,aI (K6.wrap ((q : Int) + 1)))] [(51,aI ((q : Int) + 1))] (by rw [show (K6.wrap ((q : Int) + 1)) = ((q : Int) + 1) from ab (by omega) (by omega)]) (by kernel_rfl) ?_
 refine aR [1,2,3,4,8,9,10,11,12,13,15,42,43,44,50,51] [] ?_
 exact ⟨⟨(q + 1,(fB l3 (pp.off.toNat + q) (ba pp.text q))),⟨hlt3,(by rw [stOne_len]; exact hl3),(by rw [stOne_free hfz (by decide),H3]; rfl),(fun j h1 h2 => by rw [stOne_far (by omega)]; exact hfr3 j (by omega) h2)⟩⟩,kF 4 0 [1,2,3,4,8,9,10,11,12,13,15,42,43,44,50,51],by show (fun (q : Nat) (l3 : List Int) => pp.text.size - q) (q + 1) (fB l3 (pp.off.toNat + q) (ba pp.text q)) < pp.text.size - q; (dsimp only; omega)⟩
 have h7p := of_decide_eq_false h7
 have hq3 : q = pp.text.size := by simp at h7; omega
 refine cq <| kG <| cA 2 [1,2,3,4,8,9,10,11,12,13,42,43,44] [(44,aI (K6.wrap ((i : Int) + 1)))] <| cJ [1,2,3,4,8,9,10,11,12,13,42,43,44] [(44,aI (K6.wrap ((i : Int) + 1)))] [(44,aI ((i : Int) + 1))] (by rw [show (K6.wrap ((i : Int) + 1)) = ((i : Int) + 1) from ab (by omega) (by omega)]) (by kernel_rfl) ?_
 refine aR [1,2,3,4,8,9,10,11,12,13,42,43,44] [] ?_
 exact ⟨⟨(i + 1,l3,(pp.off + (pp.text.size : Int))),⟨hlt2,hl3,(by rw [H2,dQ hx,et,← hq3,← H3]),hst3,(by dsimp only; omega),hpW,(fun j h1 h2 => hfr3 j (by dsimp only at h1; omega) h2)⟩⟩,kF 3 0 [1,2,3,4,8,9,10,11,12,13,42,43,44],by show (fun (i : Nat) (l2 : List Int) (e : Int) => r.held.length - i) (i + 1) l3 (pp.off + (pp.text.size : Int)) < r.held.length - i; (dsimp only; omega)⟩
 have h6p := of_decide_eq_false h6
 have hi2 : i = r.held.length := by simp at h6; omega
 rw [hi2,List.drop_length] at H2; simp only [et] at H2
 refine cq <| kS <| kQ <| aR [1,2,3,4,8,9,10,11,12,13,67,68] [(67,aI (text.size : Int)),(68,aI 0)] ?_
 refine aZ <| cz (α := {x : Nat × List Int // (fun (i : Nat) (sl : List Int) => i ≤ text.size ∧ sl.length = 33 ∧ sl = fw r seq text (aL r) i ∧ (∀ j,W ≤ j → j < 33 → sl[j]? = some (-1))) x.1 x.2}) (fun x => (fun (i : Nat) (sl : List Int) => (⟨[(1,aI seq),(2,.v (.string text)),(3,aB fin),(4,.p 0 0),(8,.p 1 0),(9,.p 2 0),(10,aI (W : Int)),(11,aP gd),(12,aP gh),(13,.v (.func (.func 116) #[] #[gP gh,gP gd])),(67,aI (text.size : Int)),(68,aI (i : Int))],[⟨41,ah r (.slice Arh r.held.length Crh)⟩,⟨41,dl⟩,⟨41,ah r (.slice v1a r.held.length v1c)⟩],[],[ea w.heap.size gh gd g5 g4 122 57 4 5 W sl,aF w.heap.size (.slice v1a r.held.length v1c) 2 (r.held.map pC),c7 (.slice Arh r.held.length Crh) 2 (r.held.map pC)]⟩ : St)) x.1.1 x.1.2) (fun x => (fun (i : Nat) (sl : List Int) => text.size - i) x.1.1 x.1.2) ⟨(0,l2),⟨Nat.zero_le _,hl2,H2.symm,(fun j h1 h2 => hfr j (by omega) h2)⟩⟩ (ei [0,1,2] <| kF 3 0 [1,2,3,4,8,9,10,11,12,13,67,68]) ?_
 rintro ⟨⟨i,sl⟩,hi,hl,HS,hbe⟩
 try dsimp only
 try dsimp only at hi hl HS hbe
 refine kQ <| aR [1,2,3,4,8,9,10,11,12,13,67,68,69] [(69,aB (decide ((i : Int) < (text.size : Int))))] <| kS <| kC (decide ((i : Int) < (text.size : Int))) (fun h8 => ?_) (fun h8 => ?_)
 have h8p := of_decide_eq_true h8
 have hlti : i < text.size := by simpa using h8
 have hbr := fN text i
 have hsq := gi seq (i : Int)
 refine kK <| kS <| aZ <| kQ <| aR [1,2,3,4,8,9,10,11,12,13,17,67,68] [(17,aI (i : Int))] ?_
 refine kS <| bc [] (by kernel_rfl) (fun ρ σ => ?_)
 refine ca [0,1,3,4] [75,72,71,1,2,3,4,8,9,10,11,12,13,17,67,68] 3 [(75,aI r.next),(72,aI (i : Int)),(71,aI seq),(1,aI seq),(2,.v (.string text)),(3,aB fin),(4,.p 0 0),(8,.p 1 0),(9,.p 2 0),(10,aI (W : Int)),(11,aP gd),(12,aP gh),(13,.v (.func (.func 116) #[] #[gP gh,gP gd])),(17,aI (i : Int)),(67,aI (text.size : Int)),(68,aI (i : Int))] <| kA [2] <| dr 2 115 [iI seq,iI (i : Int)] (some 73) rfl (bM fun ww hf => gc seq (i : Int) ww ) ?_
 intro _
 refine kA [5] <| dr 5 117 [iI (sA seq (i : Int)),iI r.next] (some 76) rfl (bM fun ww hf => ahead_c (sA seq (i : Int)) r.next ww ) ?_
 intro _
 refine gx [76,73,75,72,71,1,2,3,4,8,9,10,11,12,13,17,67,68] [(76,aI (((sA seq (i : Int)) - r.next) % 4294967296))] [(76,aI ((c6 r seq i : Nat) : Int))] (by rw [show (((sA seq (i : Int)) - r.next) % 4294967296) = ((c6 r seq i : Nat) : Int) from offN_eq r seq i]) (by kernel_rfl) ?_
 refine ca [6] [18,1,2,3,4,8,9,10,11,12,13,17,67,68] 0 [(18,aI ((c6 r seq i : Nat) : Int)),(1,aI seq),(2,.v (.string text)),(3,aB fin),(4,.p 0 0),(8,.p 1 0),(9,.p 2 0),(10,aI (W : Int)),(11,aP gd),(12,aP gh),(13,.v (.func (.func 116) #[] #[gP gh,gP gd])),(17,aI (i : Int)),(67,aI (text.size : Int)),(68,aI (i : Int))] <| kZ <| kQ <| cA 4 [1,2,3,4,8,9,10,11,12,13,17,18,67,68,80] [(80,aB (decide (((c6 r seq i : Nat) : Int) < (W : Int))))] ?_
 refine kP 80 (decide (((c6 r seq i : Nat) : Int) < (W : Int))) (fun h9 => ?_) (fun h9 => ?_)
 have h9p := of_decide_eq_true h9
 refine cA 4 [1,2,3,4,8,9,10,11,12,13,17,18,67,68,80,84] [(80,aB true),(84,aB (r.fin == (-1)))] <| kP 84 (r.fin == (-1)) (fun h10 => ?_) (fun h10 => ?_)
 have h10p := bC h10
 refine aR [1,2,3,4,8,9,10,11,12,13,17,18,67,68,90] [(90,aB true)] <| kT <| kG <| fh 4 [1,2,3,4,8,9,10,11,12,13,67,68,91,92,93,94] [(91,.v (.func (.func 116) #[] #[gP gh,gP gd])),(92,aI ((c6 r seq i : Nat) : Int)),(93,.v (.string text)),(94,aI (i : Int))] (.int .u8 (ba text i)) rfl (fun _ _ _ ww hr => act_tix (kd := .i64) (t := text) i hr.1 rfl rfl (by kernel_rfl) (by kernel_rfl) hlti ww) ?_
 refine xl_callWC 0 [1,2,3,4,8,9,10,11,12,13,67,68,91,92,95] ⟨[(1,aI seq),(2,.v (.string text)),(3,aB fin),(4,.p 0 0),(8,.p 1 0),(9,.p 2 0),(10,aI (W : Int)),(11,aP gd),(12,aP gh),(13,.v (.func (.func 116) #[] #[gP gh,gP gd])),(67,aI (text.size : Int)),(68,aI (i : Int)),(91,.v (.func (.func 116) #[] #[gP gh,gP gd])),(92,aI ((c6 r seq i : Nat) : Int)),(95,.v (.int .u8 (ba text i)))],[⟨41,ah r (.slice Arh r.held.length Crh)⟩,⟨41,dl⟩,⟨41,ah r (.slice v1a r.held.length v1c)⟩],[],[ea w.heap.size gh gd g5 g4 122 57 4 5 W sl,aF w.heap.size (.slice v1a r.held.length v1c) 2 (r.held.map pC),c7 (.slice Arh r.held.length Crh) 2 (r.held.map pC)]⟩ 116 [iI ((c6 r seq i : Nat) : Int),.int .u8 (ba text i),gP gh,gP gd] (some 96) 0 (ea w.heap.size gh gd g5 g4 122 57 4 5 W sl) (by kernel_rfl) rfl (by kernel_rfl) rfl (by kernel_rfl) rfl rfl (fun ww b h hb => arrF_lo h hb) (by kernel_rfl) (xcm_arr fun ww hw hf => arrStore_c w.heap.size gh gd g5 g4 W (c6 r seq i) sl (ba text i) ww hw (hf (ea w.heap.size gh gd g5 g4 122 57 4 5 W sl) (by simp)) (by omega) (by omega) hbr) ?_
 intro _
 refine aR [1,2,3,4,8,9,10,11,12,13,67,68] [] <| kG <| cA 2 [1,2,3,4,8,9,10,11,12,13,67,68] [(68,aI (K6.wrap ((i : Int) + 1)))] <| cJ [1,2,3,4,8,9,10,11,12,13,67,68] [(68,aI (K6.wrap ((i : Int) + 1)))] [(68,aI ((i : Int) + 1))] (by rw [show (K6.wrap ((i : Int) + 1)) = ((i : Int) + 1) from ab (by omega) (by omega)]) (by kernel_rfl) ?_
 refine aR [1,2,3,4,8,9,10,11,12,13,67,68] [] ?_
 exact ⟨⟨(i + 1,(fB sl (c6 r seq i) (ba text i))),⟨hlti,(by rw [stOne_len]; exact hl),(by rw [fw,← HS,text_yes (by rw [hW]; omega) (by omega)]),(fun j h1 h2 => by rw [stOne_far (by omega)]; exact hbe j h1 h2)⟩⟩,kF 3 0 [1,2,3,4,8,9,10,11,12,13,67,68],by show (fun (i : Nat) (sl : List Int) => text.size - i) (i + 1) (fB sl (c6 r seq i) (ba text i)) < text.size - i; (dsimp only; omega)⟩
 have h10p := bA h10
 refine aR [1,2,3,4,8,9,10,11,12,13,17,18,67,68,90] [(90,aB (decide (((c6 r seq i : Nat) : Int) < r.fin)))] <| kC (decide (((c6 r seq i : Nat) : Int) < r.fin)) (fun h11 => ?_) (fun h11 => ?_)
 have h11p := of_decide_eq_true h11
 refine kG <| fh 4 [1,2,3,4,8,9,10,11,12,13,67,68,91,92,93,94] [(91,.v (.func (.func 116) #[] #[gP gh,gP gd])),(92,aI ((c6 r seq i : Nat) : Int)),(93,.v (.string text)),(94,aI (i : Int))] (.int .u8 (ba text i)) rfl (fun _ _ _ ww hr => act_tix (kd := .i64) (t := text) i hr.1 rfl rfl (by kernel_rfl) (by kernel_rfl) hlti ww) ?_
 refine xl_callWC 0 [1,2,3,4,8,9,10,11,12,13,67,68,91,92,95] ⟨[(1,aI seq),(2,.v (.string text)),(3,aB fin),(4,.p 0 0),(8,.p 1 0),(9,.p 2 0),(10,aI (W : Int)),(11,aP gd),(12,aP gh),(13,.v (.func (.func 116) #[] #[gP gh,gP gd])),(67,aI (text.size : Int)),(68,aI (i : Int)),(91,.v (.func (.func 116) #[] #[gP gh,gP gd])),(92,aI ((c6 r seq i : Nat) : Int)),(95,.v (.int .u8 (ba text i)))],[⟨41,ah r (.slice Arh r.held.length Crh)⟩,⟨41,dl⟩,⟨41,ah r (.slice v1a r.held.length v1c)⟩],[],[ea w.heap.size gh gd g5 g4 122 57 4 5 W sl,aF w.heap.size (.slice v1a r.held.length v1c) 2 (r.held.map pC),c7 (.slice Arh r.held.length Crh) 2 (r.held.map pC)]⟩ 116 [iI ((c6 r seq i : Nat) : Int),.int .u8 (ba text i),gP gh,gP gd] (some 96) 0 (ea w.heap.size gh gd g5 g4 122 57 4 5 W sl) (by kernel_rfl) rfl (by kernel_rfl) rfl (by kernel_rfl) rfl rfl (fun ww b h hb => arrF_lo h hb) (by kernel_rfl) (xcm_arr fun ww hw hf => arrStore_c w.heap.size gh gd g5 g4 W (c6 r seq i) sl (ba text i) ww hw (hf (ea w.heap.size gh gd g5 g4 122 57 4 5 W sl) (by simp)) (by omega) (by omega) hbr) ?_
 intro _
 refine aR [1,2,3,4,8,9,10,11,12,13,67,68] [] <| kG <| cA 2 [1,2,3,4,8,9,10,11,12,13,67,68] [(68,aI (K6.wrap ((i : Int) + 1)))] <| cJ [1,2,3,4,8,9,10,11,12,13,67,68] [(68,aI (K6.wrap ((i : Int) + 1)))] [(68,aI ((i : Int) + 1))] (by rw [show (K6.wrap ((i : Int) + 1)) = ((i : Int) + 1) from ab (by omega) (by omega)]) (by kernel_rfl) ?_
 refine aR [1,2,3,4,8,9,10,11,12,13,67,68] [] ?_
 exact ⟨⟨(i + 1,(fB sl (c6 r seq i) (ba text i))),⟨hlti,(by rw [stOne_len]; exact hl),(by rw [fw,← HS,text_yes (by rw [hW]; omega) (by omega)]),(fun j h1 h2 => by rw [stOne_far (by omega)]; exact hbe j h1 h2)⟩⟩,kF 3 0 [1,2,3,4,8,9,10,11,12,13,67,68],by show (fun (i : Nat) (sl : List Int) => text.size - i) (i + 1) (fB sl (c6 r seq i) (ba text i)) < text.size - i; (dsimp only; omega)⟩
 have h11p := of_decide_eq_false h11
 refine kK <| kG <| cA 2 [1,2,3,4,8,9,10,11,12,13,67,68] [(68,aI (K6.wrap ((i : Int) + 1)))] <| cJ [1,2,3,4,8,9,10,11,12,13,67,68] [(68,aI (K6.wrap ((i : Int) + 1)))] [(68,aI ((i : Int) + 1))] (by rw [show (K6.wrap ((i : Int) + 1)) = ((i : Int) + 1) from ab (by omega) (by omega)]) (by kernel_rfl) ?_
 refine aR [1,2,3,4,8,9,10,11,12,13,67,68] [] ?_
 exact ⟨⟨(i + 1,sl),⟨hlti,hl,(by rw [fw,← HS,text_no (by rw [hW]; omega)]),hbe⟩⟩,kF 3 0 [1,2,3,4,8,9,10,11,12,13,67,68],by show (fun (i : Nat) (sl : List Int) => text.size - i) (i + 1) sl < text.size - i; (dsimp only; omega)⟩
 have h9p := of_decide_eq_false h9
 refine aR [1,2,3,4,8,9,10,11,12,13,17,18,67,68,90] [(90,aB false)] <| kN <| kK <| kG <| cA 2 [1,2,3,4,8,9,10,11,12,13,67,68] [(68,aI (K6.wrap ((i : Int) + 1)))] ?_
 refine cJ [1,2,3,4,8,9,10,11,12,13,67,68] [(68,aI (K6.wrap ((i : Int) + 1)))] [(68,aI ((i : Int) + 1))] (by rw [show (K6.wrap ((i : Int) + 1)) = ((i : Int) + 1) from ab (by omega) (by omega)]) (by kernel_rfl) ?_
 refine aR [1,2,3,4,8,9,10,11,12,13,67,68] [] ?_
 exact ⟨⟨(i + 1,sl),⟨hlti,hl,(by rw [fw,← HS,text_no (by rw [hW]; omega)]),hbe⟩⟩,kF 3 0 [1,2,3,4,8,9,10,11,12,13,67,68],by show (fun (i : Nat) (sl : List Int) => text.size - i) (i + 1) sl < text.size - i; (dsimp only; omega)⟩
 have h8p := of_decide_eq_false h8
 have hti : i = text.size := by simp at h8; omega
 subst hti
 have hall : sl = cY r seq text := HS
 obtain ⟨E,hE⟩ : ∃ E : Nat,(sA seq (text.size : Int) - r.next) % 4294967296 = ((E : Nat) : Int) ∧ c6 r seq text.size = E := ⟨_,offN_eq r seq text.size,rfl⟩
 refine cq <| kS <| xw_wk (wk_pick [0,1,2] [ea w.heap.size gh gd g5 g4 122 57 4 5 W sl,aF w.heap.size (.slice v1a r.held.length v1c) 2 (r.held.map pC),c7 (.slice Arh r.held.length Crh) 2 (r.held.map pC)] (by kernel_rfl) (by kernel_rfl)) ?_
 refine xw_turnF (fs' := [cy w.heap.size gh 122 [.slice (some ⟨g5,0,none⟩) W W],cy w.heap.size gd 57 [.slice (some ⟨g4,0,none⟩) W W],ap w.heap.size 4 1 (.slice (some ⟨g5,0,none⟩) W W) ((dA W sl).map cx),ap w.heap.size 5 1 (.slice (some ⟨g4,0,none⟩) W W) ((bY W sl).map bR),aF w.heap.size (.slice v1a r.held.length v1c) 2 (r.held.map pC),c7 (.slice Arh r.held.length Crh) 2 (r.held.map pC)]) (fun ρ σ w' h => all_out (gs := [cy w.heap.size gh 122 [.slice (some ⟨g5,0,none⟩) W W],cy w.heap.size gd 57 [.slice (some ⟨g4,0,none⟩) W W],ap w.heap.size 4 1 (.slice (some ⟨g5,0,none⟩) W W) ((dA W sl).map cx),ap w.heap.size 5 1 (.slice (some ⟨g4,0,none⟩) W W) ((bY W sl).map bR)]) (hs := [aF w.heap.size (.slice v1a r.held.length v1c) 2 (r.held.map pC),c7 (.slice Arh r.held.length Crh) 2 (r.held.map pC)]) ρ σ w' h) <| kG <| c8 [1,2,3,4,8,9,10,11,12,19] ⟨[(1,aI seq),(2,.v (.string text)),(3,aB fin),(4,.p 0 0),(8,.p 1 0),(9,.p 2 0),(10,aI (W : Int)),(11,aP gd),(12,aP gh),(19,.p 3 0)],[⟨41,ah r (.slice Arh r.held.length Crh)⟩,⟨41,dl⟩,⟨41,ah r (.slice v1a r.held.length v1c)⟩,⟨41,ah r (.slice Arh r.held.length Crh)⟩],[],[cy w.heap.size gh 122 [.slice (some ⟨g5,0,none⟩) W W],cy w.heap.size gd 57 [.slice (some ⟨g4,0,none⟩) W W],ap w.heap.size 4 1 (.slice (some ⟨g5,0,none⟩) W W) ((dA W sl).map cx),ap w.heap.size 5 1 (.slice (some ⟨g4,0,none⟩) W W) ((bY W sl).map bR),aF w.heap.size (.slice v1a r.held.length v1c) 2 (r.held.map pC),c7 (.slice Arh r.held.length Crh) 2 (r.held.map pC)]⟩ <| kS <| bc [] (by kernel_rfl) (fun ρ σ => ?_)
 refine ca [0,1,2,4,5] [104,101,99,3,4,8,9,10,11,12,19] 3 [(104,aI r.next),(101,aI (text.size : Int)),(99,aI seq),(3,aB fin),(4,.p 0 0),(8,.p 1 0),(9,.p 2 0),(10,aI (W : Int)),(11,aP gd),(12,aP gh),(19,.p 3 0)] <| kA [3] <| dr 3 115 [iI seq,iI (text.size : Int)] (some 102) rfl (bM fun ww hf => gc seq (text.size : Int) ww ) ?_
 intro _
 refine kA [6] <| dr 6 117 [iI (sA seq (text.size : Int)),iI r.next] (some 105) rfl (bM fun ww hf => ahead_c (sA seq (text.size : Int)) r.next ww ) ?_
 intro _
 refine gx [105,102,104,101,99,3,4,8,9,10,11,12,19] [(105,aI (((sA seq (text.size : Int)) - r.next) % 4294967296))] [(105,aI (E : Int))] (by rw [show (((sA seq (text.size : Int)) - r.next) % 4294967296) = (E : Int) from hE.1]) (by kernel_rfl) ?_
 refine ca [7] [20,3,4,8,9,10,11,12,19] 0 [(20,aI (E : Int)),(3,aB fin),(4,.p 0 0),(8,.p 1 0),(9,.p 2 0),(10,aI (W : Int)),(11,aP gd),(12,aP gh),(19,.p 3 0)] <| kZ <| kS <| cf (α := {zz : Int // (fun (fo : Int) => fo = dm r seq text fin ∧ (-1 ≤ fo ∧ fo ≤ 32)) zz}) (fun zz => (fun (fo : Int) => (⟨[(4,.p 0 0),(8,.p 1 0),(9,.p 2 0),(10,aI (W : Int)),(11,aP gd),(12,aP gh),(19,.p 3 0)],[⟨41,ah r (.slice Arh r.held.length Crh)⟩,⟨41,dl⟩,⟨41,ah r (.slice v1a r.held.length v1c)⟩,⟨41,ah { r with fin := fo } (.slice Arh r.held.length Crh)⟩],[],[cy w.heap.size gh 122 [.slice (some ⟨g5,0,none⟩) W W],cy w.heap.size gd 57 [.slice (some ⟨g4,0,none⟩) W W],ap w.heap.size 4 1 (.slice (some ⟨g5,0,none⟩) W W) ((dA W sl).map cx),ap w.heap.size 5 1 (.slice (some ⟨g4,0,none⟩) W W) ((bY W sl).map bR),aF w.heap.size (.slice v1a r.held.length v1c) 2 (r.held.map pC),c7 (.slice Arh r.held.length Crh) 2 (r.held.map pC)]⟩ : St)) zz.1) ?_ ?_
 refine kQ <| cA 2 [4,8,9,10,11,12,19,20,107] [(107,aB fin)] <| kP 107 (fin) (fun h12 => ?_) (fun h12 => ?_)
 refine cA 5 [4,8,9,10,11,12,19,20,112] [(112,aB (r.fin == (-1)))] <| kP 112 (r.fin == (-1)) (fun h13 => ?_) (fun h13 => ?_)
 have h13p := bC h13
 refine cA 5 [4,8,9,10,11,12,19,20,117] [(117,aB (decide ((E : Int) ≤ (W : Int))))] <| kP 117 (decide ((E : Int) ≤ (W : Int))) (fun h14 => ?_) (fun h14 => ?_)
 have h14p := of_decide_eq_true h14
 have hcf := hasB_free (W := W) (p := E) hbe hl hW2 (by omega)
 refine fh 0 [4,8,9,10,11,12,19,20,117] [(117,aB true)] (.slice (some ⟨g5,0,none⟩) W W) rfl (fun _ _ _ ww hr => fX (off := 0) (B := w.heap.size) (g := gh) (T := 122) (cs := [.slice (some ⟨g5,0,none⟩) W W]) hr rfl (by kernel_rfl) (by simp) (by kernel_rfl)) ?_
 refine fh 1 [4,8,9,10,11,12,19,20,117,118,119] [(119,aI (E : Int))] (.slice (if W = E then (some ⟨g5,0,none⟩ : Option Addr) else (some ⟨g5,0,none⟩ : Option Addr).map (·.add (E * 1))) (W - E) (W - E)) rfl (fun _ _ _ ww hr => act_slVe (e := 4) (A := some ⟨g5,0,none⟩) (len := W) (cap := W) (K := 1) (k := .i64) (p' := (E : Int)) E hr.1 rfl (by kernel_rfl) (by kernel_rfl) (by kernel_rfl) (by kernel_rfl) rfl (by omega) ww) ?_
 refine dy 0 [4,8,9,10,11,12,19,20,117,120] [] 118 [.slice (if W = E then (some ⟨g5,0,none⟩ : Option Addr) else (some ⟨g5,0,none⟩ : Option Addr).map (·.add (E * 1))) (W - E) (W - E),.bool true] (some 121) rfl (aA fun ww hf => yContainsB_c (((dA W sl).drop E).take (W - E)) (.slice (if W = E then (some ⟨g5,0,none⟩ : Option Addr) else (some ⟨g5,0,none⟩ : Option Addr).map (·.add (E * 1))) (W - E) (W - E)) true ww (Sl.partM (aS (hf _ m2)) E W (by omega) (by omega)) ) ?_
 intro _
 refine aR [4,8,9,10,11,12,19,20,123] [(123,aB (!(hasB (((dA W sl).drop E).take (W - E)) true)))] <| kC (!(hasB (((dA W sl).drop E).take (W - E)) true)) (fun h15 => ?_) (fun h15 => ?_)
 have h15n := bg h15
 refine kG <| bf [4,8,9,10,11,12,19] [] 3 ⟨41,ah { r with fin := (E : Int) } (.slice Arh r.held.length Crh)⟩ ?_
 exact ⟨⟨((E : Int)),⟨(by unfold dm; rw [← hall,hW,hE.2]; first | (simp [*]; done) | grind),(by first | omega | (have := hf3; omega))⟩⟩,kF 4 0 [4,8,9,10,11,12,19]⟩
 have h15n := aD h15
 refine kK ?_
 exact ⟨⟨(r.fin),⟨(by unfold dm; rw [← hall,hW,hE.2]; first | (simp [*]; done) | grind),(by first | omega | (have := hf3; omega))⟩⟩,kF 4 0 [4,8,9,10,11,12,19]⟩
 have h14p := of_decide_eq_false h14
 refine aR [4,8,9,10,11,12,19,20,123] [(123,aB false)] <| kN <| kK ?_
 exact ⟨⟨(r.fin),⟨(by unfold dm; rw [← hall,hW,hE.2]; first | (simp [*]; done) | grind),(by first | omega | (have := hf3; omega))⟩⟩,kF 4 0 [4,8,9,10,11,12,19]⟩
 have h13p := bA h13
 refine aR [4,8,9,10,11,12,19,20,123] [(123,aB false)] <| kN <| kK ?_
 exact ⟨⟨(r.fin),⟨(by unfold dm; rw [← hall,hW,hE.2]; first | (simp [*]; done) | grind),(by first | omega | (have := hf3; omega))⟩⟩,kF 4 0 [4,8,9,10,11,12,19]⟩
 refine aR [4,8,9,10,11,12,19,20,123] [(123,aB false)] <| kN <| kK ?_
 exact ⟨⟨(r.fin),⟨(by unfold dm; rw [← hall,hW,hE.2]; first | (simp [*]; done) | grind),(by first | omega | (have := hf3; omega))⟩⟩,kF 4 0 [4,8,9,10,11,12,19]⟩
 rintro ⟨fo,hfo,hfb⟩
 try dsimp only
 try dsimp only at hfo hfb
 refine kQ <| aR [4,8,9,10,11,12,19,21] [(21,aI 0)] <| kS <| cf (α := {zz : Nat // (fun (n2 : Nat) => n2 = cQ sl ∧ n2 ≤ W ∧ (∀ x ∈ sl.take n2,0 ≤ x)) zz}) (fun zz => (fun (n2 : Nat) => (⟨[(4,.p 0 0),(8,.p 1 0),(9,.p 2 0),(10,aI (W : Int)),(11,aP gd),(12,aP gh),(19,.p 3 0),(21,aI (n2 : Int))],[⟨41,ah r (.slice Arh r.held.length Crh)⟩,⟨41,dl⟩,⟨41,ah r (.slice v1a r.held.length v1c)⟩,⟨41,ah { r with fin := fo } (.slice Arh r.held.length Crh)⟩],[],[cy w.heap.size gh 122 [.slice (some ⟨g5,0,none⟩) W W],cy w.heap.size gd 57 [.slice (some ⟨g4,0,none⟩) W W],ap w.heap.size 4 1 (.slice (some ⟨g5,0,none⟩) W W) ((dA W sl).map cx),ap w.heap.size 5 1 (.slice (some ⟨g4,0,none⟩) W W) ((bY W sl).map bR),aF w.heap.size (.slice v1a r.held.length v1c) 2 (r.held.map pC),c7 (.slice Arh r.held.length Crh) 2 (r.held.map pC)]⟩ : St)) zz.1) ?_ ?_
 refine aZ <| cz (α := {x : Nat // (fun (n2 : Nat) => n2 ≤ W ∧ (∀ x ∈ sl.take n2,0 ≤ x)) x}) (fun x => (fun (n2 : Nat) => (⟨[(4,.p 0 0),(8,.p 1 0),(9,.p 2 0),(10,aI (W : Int)),(11,aP gd),(12,aP gh),(19,.p 3 0),(21,aI (n2 : Int))],[⟨41,ah r (.slice Arh r.held.length Crh)⟩,⟨41,dl⟩,⟨41,ah r (.slice v1a r.held.length v1c)⟩,⟨41,ah { r with fin := fo } (.slice Arh r.held.length Crh)⟩],[],[cy w.heap.size gh 122 [.slice (some ⟨g5,0,none⟩) W W],cy w.heap.size gd 57 [.slice (some ⟨g4,0,none⟩) W W],ap w.heap.size 4 1 (.slice (some ⟨g5,0,none⟩) W W) ((dA W sl).map cx),ap w.heap.size 5 1 (.slice (some ⟨g4,0,none⟩) W W) ((bY W sl).map bR),aF w.heap.size (.slice v1a r.held.length v1c) 2 (r.held.map pC),c7 (.slice Arh r.held.length Crh) 2 (r.held.map pC)]⟩ : St)) x.1) (fun x => (fun (n2 : Nat) => W - n2) x.1) ⟨(0),⟨Nat.zero_le _,(by simp)⟩⟩ (kF 4 0 [4,8,9,10,11,12,19,21]) ?_
 rintro ⟨n2,hn2,hps⟩
 try dsimp only
 try dsimp only at hn2 hps
 refine kS <| kQ <| cA 4 [4,8,9,10,11,12,19,21,129] [(129,aB (decide ((n2 : Int) < (W : Int))))] <| kP 129 (decide ((n2 : Int) < (W : Int))) (fun h16 => ?_) (fun h16 => ?_)
 have h16p := of_decide_eq_true h16
 have hlt2 : n2 < W := by simp at h16; omega
 obtain ⟨y,hy⟩ : ∃ y,sl[n2]? = some y := ⟨_,List.getElem?_eq_getElem (by omega)⟩
 refine fh 0 [4,8,9,10,11,12,19,21,129] [(129,aB true)] (.slice (some ⟨g5,0,none⟩) W W) rfl (fun _ _ _ ww hr => fX (off := 0) (B := w.heap.size) (g := gh) (T := 122) (cs := [.slice (some ⟨g5,0,none⟩) W W]) hr rfl (by kernel_rfl) (by simp) (by kernel_rfl)) ?_
 refine fh 1 [4,8,9,10,11,12,19,21,129,130,131] [(131,aI (n2 : Int))] (.pointer (some ⟨g5,n2 * 1,none⟩)) rfl (fun _ _ _ ww hr => dF (kd := .i64) (T := 122) (e := 4) (K := 1) (g := g5) (N := W) (cap := W) n2 rfl hr.1 rfl rfl (by kernel_rfl) (by kernel_rfl) (by kernel_rfl) hlt2 ww) ?_
 refine fh 0 [4,8,9,10,11,12,19,21,129,132] [] (.bool (decide (0 ≤ y))) rfl (fun _ _ _ ww hr => dD (po := 0) (j := n2) (row := [.bool (decide (0 ≤ y))]) (ap w.heap.size 4 1 (.slice (some ⟨g5,0,none⟩) W W) ((dA W sl).map cx)) hr rfl (by kernel_rfl) (by simp) (by simp only [List.getElem?_map,io hlt2 hy]; rfl) (by kernel_rfl) rfl rfl rfl) ?_
 refine aR [4,8,9,10,11,12,19,21,134] [(134,aB (decide (0 ≤ y)))] <| kC (decide (0 ≤ y)) (fun h17 => ?_) (fun h17 => ?_)
 have h17p := of_decide_eq_true h17
 have hyp := of_decide_eq_true h17
 refine kK <| aZ <| kG <| cA 3 [4,8,9,10,11,12,19,21] [(21,aI (K6.wrap ((n2 : Int) + 1)))] ?_
 refine cJ [4,8,9,10,11,12,19,21] [(21,aI (K6.wrap ((n2 : Int) + 1)))] [(21,aI ((n2 : Int) + 1))] (by rw [show (K6.wrap ((n2 : Int) + 1)) = ((n2 : Int) + 1) from ab (by omega) (by omega)]) (by kernel_rfl) ?_
 refine aR [4,8,9,10,11,12,19,21] [] ?_
 exact ⟨⟨(n2 + 1),⟨(by (try dsimp only); omega),(take_pos hps hy (by omega))⟩⟩,kF 4 0 [4,8,9,10,11,12,19,21],by show (fun (n2 : Nat) => W - n2) (n2 + 1) < W - n2; (dsimp only; omega)⟩
 have h17p := of_decide_eq_false h17
 have hyp := of_decide_eq_false h17
 refine cq ?_
 exact ⟨⟨(n2),⟨(by first | exact (ey (k := n2) (by omega) hps (fun z hz => by rw [hy] at hz; simp only [Option.some.injEq] at hz; omega)).symm | exact (ey (k := n2) (by omega) hps (fun z hz => by rw [hbe n2 (by omega) (by omega)] at hz; simp only [Option.some.injEq] at hz; omega)).symm),hn2,hps⟩⟩,kF 4 0 [4,8,9,10,11,12,19,21]⟩
 have h16p := of_decide_eq_false h16
 have hge2 : n2 = W := by simp at h16; omega
 refine aR [4,8,9,10,11,12,19,21,134] [(134,aB false)] <| kN <| cq ?_
 exact ⟨⟨(n2),⟨(by first | exact (ey (k := n2) (by omega) hps (fun z hz => by rw [hy] at hz; simp only [Option.some.injEq] at hz; omega)).symm | exact (ey (k := n2) (by omega) hps (fun z hz => by rw [hbe n2 (by omega) (by omega)] at hz; simp only [Option.some.injEq] at hz; omega)).symm),hn2,hps⟩⟩,kF 4 0 [4,8,9,10,11,12,19,21]⟩
 rintro ⟨n2,hnf,hn2,hps⟩
 try dsimp only
 try dsimp only at hnf hn2 hps
 refine kS <| bo ⟨[(4,.p 0 0),(8,.p 1 0),(9,.p 2 0),(10,aI (W : Int)),(11,aP gd),(12,aP gh),(19,.p 3 0),(21,aI (n2 : Int))],[⟨41,ah r (.slice Arh r.held.length Crh)⟩,⟨41,dl⟩,⟨41,ah r (.slice v1a r.held.length v1c)⟩,⟨41,ah { r with data := r.data ++ (am (sl.take n2)),fin := fo } (.slice Arh r.held.length Crh)⟩],[],[cy w.heap.size gh 122 [.slice (some ⟨g5,0,none⟩) W W],cy w.heap.size gd 57 [.slice (some ⟨g4,0,none⟩) W W],ap w.heap.size 4 1 (.slice (some ⟨g5,0,none⟩) W W) ((dA W sl).map cx),ap w.heap.size 5 1 (.slice (some ⟨g4,0,none⟩) W W) ((bY W sl).map bR),aF w.heap.size (.slice v1a r.held.length v1c) 2 (r.held.map pC),c7 (.slice Arh r.held.length Crh) 2 (r.held.map pC)]⟩ ?_ ?_
 refine fy <| xws_cell (B := w.heap.size) (g := gd) (T := 57) (cs := [.slice (some ⟨g4,0,none⟩) W W]) (fun _ _ h => h) (by simp) ?_
 refine e9 [true,true,true,false] (by kernel_rfl) (fun ρ σ hq18 => ?_)
 refine ca [0,3] [140,137,4,8,9,10,11,12,19,21] 7 [(140,aI (n2 : Int)),(137,.p 3 1),(4,.p 0 0),(8,.p 1 0),(9,.p 2 0),(10,aI (W : Int)),(11,aP gd),(12,aP gh),(19,.p 3 0),(21,aI (n2 : Int))] <| xe_opH 2 (.slice (some ⟨g4,0,none⟩) W W) _ rfl (by kernel_rfl) (by kernel_rfl) (by kernel_rfl) (fun _ _ h => h) (by kernel_rfl) rfl (fun _ _ ww hA hS => gy (g := gd) (off := 0) (cs := [.slice (some ⟨g4,0,none⟩) W W]) hA rfl (by kernel_rfl) (rd_row hS (h := 0) rfl hq18.2) (by kernel_rfl)) rfl ?_
 refine kA [1,4] ⟨?_,?_⟩
 refine fV 1 (.v (.string r.data)) rfl <| kA [4] <| i7 4 (.slice (if W = 0 then (some ⟨g4,0,none⟩ : Option Addr) else (some ⟨g4,0,none⟩ : Option Addr).map (·.add (0 * 1))) (n2 - 0) (W - 0)) rfl (fun _ _ ww hr => act_slV0 (e := 5) (A := some ⟨g4,0,none⟩) (len := W) (cap := W) (K := 1) (k' := .i64) (q' := (n2 : Int)) n2 hr.1 rfl (by kernel_rfl) (by kernel_rfl) (by kernel_rfl) (by kernel_rfl) rfl (Nat.le_trans (show n2 ≤ W by omega) (Sl.capLe (aS (hr.2.fact (ap w.heap.size 5 1 (.slice (some ⟨g4,0,none⟩) W W) ((bY W sl).map bR)) (by simp)).1))) ww) ?_
 refine kA [5] <| i7 5 (.string (am (((bY W sl).drop 0).take (n2 - 0)))) rfl (fun _ _ ww hr => cb (e := 5) (((bY W sl).drop 0).take (n2 - 0)) hr.1 rfl (by kernel_rfl) (by kernel_rfl) (by kernel_rfl) rfl (Sl.partM (aS (hr.2.fact (ap w.heap.size 5 1 (.slice (some ⟨g4,0,none⟩) W W) ((bY W sl).map bR)) (by simp)).1) 0 n2 (by omega) (by omega))) ?_
 refine gx [142,141,138,139,140,137,4,8,9,10,11,12,19,21] [(142,.v (.string (am (((bY W sl).drop 0).take (n2 - 0)))))] [(142,.v (.string (am (sl.take n2))))] (by rw [show (am (((bY W sl).drop 0).take (n2 - 0))) = (am (sl.take n2)) from dt_head hn2 hps]) (by kernel_rfl) ?_
 refine kX 6 (.string (r.data ++ (am (sl.take n2)))) rfl (fun _ _ ww hA => cj hA rfl (by kernel_rfl) (by kernel_rfl) (gk (by rw [bL,List.length_take]; omega) ww)) ?_
 refine ca [7] [144,143,4,8,9,10,11,12,19,21] 1 [(144,.p 3 1),(143,.v (.string (r.data ++ (am (sl.take n2))))),(4,.p 0 0),(8,.p 1 0),(9,.p 2 0),(10,aI (W : Int)),(11,aP gd),(12,aP gh),(19,.p 3 0),(21,aI (n2 : Int))] <| kA [8] <| e8 8 3 1 [.string (r.data ++ (am (sl.take n2)))] rfl <| kZ ?_
 exact kF 4 0 [4,8,9,10,11,12,19,21]
 refine i7 4 (.slice (if W = 0 then (some ⟨g4,0,none⟩ : Option Addr) else (some ⟨g4,0,none⟩ : Option Addr).map (·.add (0 * 1))) (n2 - 0) (W - 0)) rfl (fun _ _ ww hr => act_slV0 (e := 5) (A := some ⟨g4,0,none⟩) (len := W) (cap := W) (K := 1) (k' := .i64) (q' := (n2 : Int)) n2 hr.1 rfl (by kernel_rfl) (by kernel_rfl) (by kernel_rfl) (by kernel_rfl) rfl (Nat.le_trans (show n2 ≤ W by omega) (Sl.capLe (aS (hr.2.fact (ap w.heap.size 5 1 (.slice (some ⟨g4,0,none⟩) W W) ((bY W sl).map bR)) (by simp)).1))) ww) ?_
 refine kA [1,5] ⟨?_,?_⟩
 refine fV 1 (.v (.string r.data)) rfl <| kA [5] <| i7 5 (.string (am (((bY W sl).drop 0).take (n2 - 0)))) rfl (fun _ _ ww hr => cb (e := 5) (((bY W sl).drop 0).take (n2 - 0)) hr.1 rfl (by kernel_rfl) (by kernel_rfl) (by kernel_rfl) rfl (Sl.partM (aS (hr.2.fact (ap w.heap.size 5 1 (.slice (some ⟨g4,0,none⟩) W W) ((bY W sl).map bR)) (by simp)).1) 0 n2 (by omega) (by omega))) ?_
 refine gx [142,138,141,139,140,137,4,8,9,10,11,12,19,21] [(142,.v (.string (am (((bY W sl).drop 0).take (n2 - 0)))))] [(142,.v (.string (am (sl.take n2))))] (by rw [show (am (((bY W sl).drop 0).take (n2 - 0))) = (am (sl.take n2)) from dt_head hn2 hps]) (by kernel_rfl) ?_
 refine kX 6 (.string (r.data ++ (am (sl.take n2)))) rfl (fun _ _ ww hA => cj hA rfl (by kernel_rfl) (by kernel_rfl) (gk (by rw [bL,List.length_take]; omega) ww)) ?_
 refine ca [7] [144,143,4,8,9,10,11,12,19,21] 1 [(144,.p 3 1),(143,.v (.string (r.data ++ (am (sl.take n2))))),(4,.p 0 0),(8,.p 1 0),(9,.p 2 0),(10,aI (W : Int)),(11,aP gd),(12,aP gh),(19,.p 3 0),(21,aI (n2 : Int))] <| kA [8] <| e8 8 3 1 [.string (r.data ++ (am (sl.take n2)))] rfl <| kZ ?_
 exact kF 4 0 [4,8,9,10,11,12,19,21]
 refine i7 5 (.string (am (((bY W sl).drop 0).take (n2 - 0)))) rfl (fun _ _ ww hr => cb (e := 5) (((bY W sl).drop 0).take (n2 - 0)) hr.1 rfl (by kernel_rfl) (by kernel_rfl) (by kernel_rfl) rfl (Sl.partM (aS (hr.2.fact (ap w.heap.size 5 1 (.slice (some ⟨g4,0,none⟩) W W) ((bY W sl).map bR)) (by simp)).1) 0 n2 (by omega) (by omega))) ?_
 refine gx [142,141,139,140,137,4,8,9,10,11,12,19,21] [(142,.v (.string (am (((bY W sl).drop 0).take (n2 - 0)))))] [(142,.v (.string (am (sl.take n2))))] (by rw [show (am (((bY W sl).drop 0).take (n2 - 0))) = (am (sl.take n2)) from dt_head hn2 hps]) (by kernel_rfl) ?_
 refine kA [1] <| fV 1 (.v (.string r.data)) rfl <| kX 6 (.string (r.data ++ (am (sl.take n2)))) rfl (fun _ _ ww hA => cj hA rfl (by kernel_rfl) (by kernel_rfl) (gk (by rw [bL,List.length_take]; omega) ww)) ?_
 refine ca [7] [144,143,4,8,9,10,11,12,19,21] 1 [(144,.p 3 1),(143,.v (.string (r.data ++ (am (sl.take n2))))),(4,.p 0 0),(8,.p 1 0),(9,.p 2 0),(10,aI (W : Int)),(11,aP gd),(12,aP gh),(19,.p 3 0),(21,aI (n2 : Int))] <| kA [8] <| e8 8 3 1 [.string (r.data ++ (am (sl.take n2)))] rfl <| kZ ?_
 exact kF 4 0 [4,8,9,10,11,12,19,21]
 refine kQ <| dy 3 [8,9,10,11,12,19,21,146,147] [(146,aI r.next),(147,aI (n2 : Int))] 115 [iI r.next,iI (n2 : Int)] (some 148) rfl (bM fun ww hf => gc r.next (n2 : Int) ww ) ?_
 intro _
 refine bf [8,9,10,11,12,19,21] [] 3 ⟨41,[iI (sA r.next (n2 : Int)),.string (r.data ++ (am (sl.take n2))),.slice Arh r.held.length Crh,iI fo,.bool r.done]⟩ <| kS <| cf (α := {zz : Int // (fun (fp : Int) => fp = eJ r seq text fin) zz}) (fun zz => (fun (fp : Int) => (⟨[(8,.p 1 0),(9,.p 2 0),(10,aI (W : Int)),(11,aP gd),(12,aP gh),(19,.p 3 0),(21,aI (n2 : Int))],[⟨41,ah r (.slice Arh r.held.length Crh)⟩,⟨41,dl⟩,⟨41,ah r (.slice v1a r.held.length v1c)⟩,⟨41,[iI (sA r.next (n2 : Int)),.string (r.data ++ (am (sl.take n2))),.slice Arh r.held.length Crh,iI fp,.bool r.done]⟩],[],[cy w.heap.size gh 122 [.slice (some ⟨g5,0,none⟩) W W],cy w.heap.size gd 57 [.slice (some ⟨g4,0,none⟩) W W],ap w.heap.size 4 1 (.slice (some ⟨g5,0,none⟩) W W) ((dA W sl).map cx),ap w.heap.size 5 1 (.slice (some ⟨g4,0,none⟩) W W) ((bY W sl).map bR),aF w.heap.size (.slice v1a r.held.length v1c) 2 (r.held.map pC),c7 (.slice Arh r.held.length Crh) 2 (r.held.map pC)]⟩ : St)) zz.1) ?_ ?_
 refine kQ <| aR [8,9,10,11,12,19,21,152] [(152,aB (fo != (-1)))] <| kC (fo != (-1)) (fun h19 => ?_) (fun h19 => ?_)
 have h19p := neT h19
 refine kG <| kRB 6 [8,9,10,11,12,19,21] [(8,.p 1 0),(9,.p 2 0),(10,aI (W : Int)),(11,aP gd),(12,aP gh),(19,.p 3 0),(21,aI (n2 : Int))] [⟨41,ah r (.slice Arh r.held.length Crh)⟩,⟨41,dl⟩,⟨41,ah r (.slice v1a r.held.length v1c)⟩,⟨41,[iI (sA r.next (n2 : Int)),.string (r.data ++ (am (sl.take n2))),.slice Arh r.held.length Crh,iI (K6.wrap (fo - (n2 : Int))),.bool r.done]⟩] <| gW (st' := ⟨[(8,.p 1 0),(9,.p 2 0),(10,aI (W : Int)),(11,aP gd),(12,aP gh),(19,.p 3 0),(21,aI (n2 : Int))],[⟨41,ah r (.slice Arh r.held.length Crh)⟩,⟨41,dl⟩,⟨41,ah r (.slice v1a r.held.length v1c)⟩,⟨41,[iI (sA r.next (n2 : Int)),.string (r.data ++ (am (sl.take n2))),.slice Arh r.held.length Crh,iI (fo - (n2 : Int)),.bool r.done]⟩],[],[cy w.heap.size gh 122 [.slice (some ⟨g5,0,none⟩) W W],cy w.heap.size gd 57 [.slice (some ⟨g4,0,none⟩) W W],ap w.heap.size 4 1 (.slice (some ⟨g5,0,none⟩) W W) ((dA W sl).map cx),ap w.heap.size 5 1 (.slice (some ⟨g4,0,none⟩) W W) ((bY W sl).map bR),aF w.heap.size (.slice v1a r.held.length v1c) 2 (r.held.map pC),c7 (.slice Arh r.held.length Crh) 2 (r.held.map pC)]⟩) (by rw [show (K6.wrap (fo - (n2 : Int))) = (fo - (n2 : Int)) from ab (by omega) (by omega)] <;> rfl) ?_
 refine aR [8,9,10,11,12,19,21] [] ?_
 exact ⟨⟨(fo - (n2 : Int)),(by unfold eJ; rw [← hall,← hnf,← hfo]; first | rw [if_pos (by omega)] | rw [if_neg (by omega)])⟩,kF 4 0 [8,9,10,11,12,19,21]⟩
 have h19p := neF h19
 refine kK ?_
 exact ⟨⟨(fo),(by unfold eJ; rw [← hall,← hnf,← hfo]; first | rw [if_pos (by omega)] | rw [if_neg (by omega)])⟩,kF 4 0 [8,9,10,11,12,19,21]⟩
 rintro ⟨fp,hfp⟩
 try dsimp only
 try dsimp only at hfp
 refine kQ <| bf [8,9,10,11,12,19,21] [] 3 ⟨41,[iI (sA r.next (n2 : Int)),.string (r.data ++ (am (sl.take n2))),.slice none 0 0,iI fp,.bool r.done]⟩ <| kS <| kQ <| aR [8,9,10,11,12,19,21,22] [(22,aI (n2 : Int))] ?_
 refine aZ <| xw_free (ap w.heap.size 85 2 (.slice none 0 0) (([] : List Pce).map pC)) (fun ww hww => nilF_p _ _ ww hww) (fun b => nilF_b _ _ _ b) <| cz (α := {x : Nat × List Pce × Option Addr × Nat // (fun (i : Nat) (out : List Pce) (A1 : Option Addr) (c1 : Nat) => (n2 ≤ i ∧ i ≤ W) ∧ fl [] 0 (sl.drop n2) = fl out (i - n2) (sl.drop i) ∧ (∀ p ∈ out,0 ≤ p.off ∧ p.off + (p.text.size : Int) ≤ ((i - n2 : Nat) : Int)) ∧ (∀ x,sl[i]? = some x → 0 ≤ x → ¬ touches out (i - n2)) ∧ out.length ≤ i) x.1 x.2.1 x.2.2.1 x.2.2.2}) (fun x => (fun (i : Nat) (out : List Pce) (A1 : Option Addr) (c1 : Nat) => (⟨[(8,.p 1 0),(9,.p 2 0),(10,aI (W : Int)),(11,aP gd),(12,aP gh),(19,.p 3 0),(21,aI (n2 : Int)),(22,aI (i : Int))],[⟨41,ah r (.slice Arh r.held.length Crh)⟩,⟨41,dl⟩,⟨41,ah r (.slice v1a r.held.length v1c)⟩,⟨41,[iI (sA r.next (n2 : Int)),.string (r.data ++ (am (sl.take n2))),.slice A1 out.length c1,iI fp,.bool r.done]⟩],[],[ap w.heap.size 85 2 (.slice A1 out.length c1) (out.map pC),cy w.heap.size gh 122 [.slice (some ⟨g5,0,none⟩) W W],cy w.heap.size gd 57 [.slice (some ⟨g4,0,none⟩) W W],ap w.heap.size 4 1 (.slice (some ⟨g5,0,none⟩) W W) ((dA W sl).map cx),ap w.heap.size 5 1 (.slice (some ⟨g4,0,none⟩) W W) ((bY W sl).map bR),aF w.heap.size (.slice v1a r.held.length v1c) 2 (r.held.map pC),c7 (.slice Arh r.held.length Crh) 2 (r.held.map pC)]⟩ : St)) x.1.1 x.1.2.1 x.1.2.2.1 x.1.2.2.2) (fun x => (fun (i : Nat) (out : List Pce) (A1 : Option Addr) (c1 : Nat) => W - i) x.1.1 x.1.2.1 x.1.2.2.1 x.1.2.2.2) ⟨(n2,([] : List Pce),none,0),⟨⟨Nat.le_refl _,hn2⟩,(by rw [Nat.sub_self]),(by simp),(fun x _ _ => by rintro ⟨p,hp,-⟩; simp at hp),Nat.zero_le _⟩⟩ (kF 4 0 [8,9,10,11,12,19,21,22]) ?_
 rintro ⟨⟨i,out,A1,c1⟩,hi,HP,hbd,htc,hol⟩
 try dsimp only
 try dsimp only at hi HP hbd htc hol
 refine kS <| kQ <| aR [8,9,10,11,12,19,21,22,162] [(162,aB (decide ((i : Int) < (W : Int))))] <| kC (decide ((i : Int) < (W : Int))) (fun h20 => ?_) (fun h20 => ?_)
 have h20p := of_decide_eq_true h20
 have hlt5 : i < W := by simp at h20; omega
 obtain ⟨y2,hy2⟩ : ∃ y,sl[i]? = some y := ⟨_,List.getElem?_eq_getElem (by omega)⟩
 refine kK <| aZ <| kS <| kQ <| fh 0 [8,9,10,11,12,19,21,22] [] (.slice (some ⟨g5,0,none⟩) W W) rfl (fun _ _ _ ww hr => fX (off := 0) (B := w.heap.size) (g := gh) (T := 122) (cs := [.slice (some ⟨g5,0,none⟩) W W]) hr rfl (by kernel_rfl) (by simp) (by kernel_rfl)) ?_
 refine fh 1 [8,9,10,11,12,19,21,22,163,164] [(164,aI (i : Int))] (.pointer (some ⟨g5,i * 1,none⟩)) rfl (fun _ _ _ ww hr => dF (kd := .i64) (T := 122) (e := 4) (K := 1) (g := g5) (N := W) (cap := W) i rfl hr.1 rfl rfl (by kernel_rfl) (by kernel_rfl) (by kernel_rfl) hlt5 ww) ?_
 refine fh 0 [8,9,10,11,12,19,21,22,165] [] (.bool (decide (0 ≤ y2))) rfl (fun _ _ _ ww hr => dD (po := 0) (j := i) (row := [.bool (decide (0 ≤ y2))]) (ap w.heap.size 4 1 (.slice (some ⟨g5,0,none⟩) W W) ((dA W sl).map cx)) hr rfl (by kernel_rfl) (by simp) (by simp only [List.getElem?_map,io hlt5 hy2]; rfl) (by kernel_rfl) rfl rfl rfl) ?_
 refine aR [8,9,10,11,12,19,21,22,167] [(167,aB (!(decide (0 ≤ y2))))] <| kC (!(decide (0 ≤ y2))) (fun h21 => ?_) (fun h21 => ?_)
 have h21n := bg h21
 have hy2p := of_decide_eq_false h21n
 refine kQ <| cR 3 [8,9,10,11,12,19,21,22] [(8,.p 1 0),(9,.p 2 0),(10,aI (W : Int)),(11,aP gd),(12,aP gh),(19,.p 3 0),(21,aI (n2 : Int)),(22,aI (K6.wrap ((i : Int) + 1)))] <| dg (t' := [(8,.p 1 0),(9,.p 2 0),(10,aI (W : Int)),(11,aP gd),(12,aP gh),(19,.p 3 0),(21,aI (n2 : Int)),(22,aI ((i : Int) + 1))]) (by rw [show (K6.wrap ((i : Int) + 1)) = ((i : Int) + 1) from ab (by omega) (by omega)]) ?_
 refine aR [8,9,10,11,12,19,21,22] [] <| cq ?_
 exact ⟨⟨(i + 1,out,A1,c1),⟨(by (try dsimp only); omega),(by rw [HP,pcs_step (l := sl) (m := n2) hy2 (by omega),if_pos (by omega)]),(fun p hp => by have := hbd p hp; (try dsimp only); omega),(fun x _ _ => by rw [show i + 1 - n2 = (i - n2) + 1 by omega]; exact touch_skip hbd),(by (try dsimp only); omega)⟩⟩,kF 4 0 [8,9,10,11,12,19,21,22],by show (fun (i : Nat) (out : List Pce) (A1 : Option Addr) (c1 : Nat) => W - i) (i + 1) out A1 c1 < W - i; (dsimp only; omega)⟩
 have h21n := aD h21
 have hy2p := of_decide_eq_true h21n
 refine kK <| kQ <| aR [8,9,10,11,12,19,21,22,23] [(23,aI (i : Int))] <| kS <| cf (α := {zz : Nat // (fun (j : Nat) => (i < j ∧ j ≤ W) ∧ (∀ x ∈ (sl.drop i).take (j - i),0 ≤ x) ∧ (∀ z,sl[j]? = some z → z < 0)) zz}) (fun zz => (fun (j : Nat) => (⟨[(8,.p 1 0),(9,.p 2 0),(10,aI (W : Int)),(11,aP gd),(12,aP gh),(19,.p 3 0),(21,aI (n2 : Int)),(22,aI (j : Int)),(23,aI (i : Int))],[⟨41,ah r (.slice Arh r.held.length Crh)⟩,⟨41,dl⟩,⟨41,ah r (.slice v1a r.held.length v1c)⟩,⟨41,[iI (sA r.next (n2 : Int)),.string (r.data ++ (am (sl.take n2))),.slice A1 out.length c1,iI fp,.bool r.done]⟩],[],[ap w.heap.size 85 2 (.slice A1 out.length c1) (out.map pC),cy w.heap.size gh 122 [.slice (some ⟨g5,0,none⟩) W W],cy w.heap.size gd 57 [.slice (some ⟨g4,0,none⟩) W W],ap w.heap.size 4 1 (.slice (some ⟨g5,0,none⟩) W W) ((dA W sl).map cx),ap w.heap.size 5 1 (.slice (some ⟨g4,0,none⟩) W W) ((bY W sl).map bR),aF w.heap.size (.slice v1a r.held.length v1c) 2 (r.held.map pC),c7 (.slice Arh r.held.length Crh) 2 (r.held.map pC)]⟩ : St)) zz.1) ?_ ?_
 refine aZ <| cz (α := {x : Nat // (fun (j : Nat) => (i ≤ j ∧ j ≤ W) ∧ (∀ x ∈ (sl.drop i).take (j - i),0 ≤ x)) x}) (fun x => (fun (j : Nat) => (⟨[(8,.p 1 0),(9,.p 2 0),(10,aI (W : Int)),(11,aP gd),(12,aP gh),(19,.p 3 0),(21,aI (n2 : Int)),(22,aI (j : Int)),(23,aI (i : Int))],[⟨41,ah r (.slice Arh r.held.length Crh)⟩,⟨41,dl⟩,⟨41,ah r (.slice v1a r.held.length v1c)⟩,⟨41,[iI (sA r.next (n2 : Int)),.string (r.data ++ (am (sl.take n2))),.slice A1 out.length c1,iI fp,.bool r.done]⟩],[],[ap w.heap.size 85 2 (.slice A1 out.length c1) (out.map pC),cy w.heap.size gh 122 [.slice (some ⟨g5,0,none⟩) W W],cy w.heap.size gd 57 [.slice (some ⟨g4,0,none⟩) W W],ap w.heap.size 4 1 (.slice (some ⟨g5,0,none⟩) W W) ((dA W sl).map cx),ap w.heap.size 5 1 (.slice (some ⟨g4,0,none⟩) W W) ((bY W sl).map bR),aF w.heap.size (.slice v1a r.held.length v1c) 2 (r.held.map pC),c7 (.slice Arh r.held.length Crh) 2 (r.held.map pC)]⟩ : St)) x.1) (fun x => (fun (j : Nat) => W - j) x.1) ⟨(i),⟨⟨Nat.le_refl _,by omega⟩,(by rw [Nat.sub_self]; simp)⟩⟩ (kF 4 0 [8,9,10,11,12,19,21,22,23]) ?_
 rintro ⟨j,hij,hrun⟩
 try dsimp only
 try dsimp only at hij hrun
 refine kS <| kQ <| cR 4 [8,9,10,11,12,19,21,22,23,174] [(8,.p 1 0),(9,.p 2 0),(10,aI (W : Int)),(11,aP gd),(12,aP gh),(19,.p 3 0),(21,aI (n2 : Int)),(22,aI (j : Int)),(23,aI (i : Int)),(174,aB (decide ((j : Int) < (W : Int))))] <| kP 174 (decide ((j : Int) < (W : Int))) (fun h22 => ?_) (fun h22 => ?_)
 have h22p := of_decide_eq_true h22
 have hlt6 : j < W := by simp at h22; omega
 obtain ⟨y3,hy3⟩ : ∃ y,sl[j]? = some y := ⟨_,List.getElem?_eq_getElem (by omega)⟩
 refine fh 0 [8,9,10,11,12,19,21,22,23,174] [(174,aB true)] (.slice (some ⟨g5,0,none⟩) W W) rfl (fun _ _ _ ww hr => fX (off := 0) (B := w.heap.size) (g := gh) (T := 122) (cs := [.slice (some ⟨g5,0,none⟩) W W]) hr rfl (by kernel_rfl) (by simp) (by kernel_rfl)) ?_
 refine fh 1 [8,9,10,11,12,19,21,22,23,174,175,176] [(176,aI (j : Int))] (.pointer (some ⟨g5,j * 1,none⟩)) rfl (fun _ _ _ ww hr => dF (kd := .i64) (T := 122) (e := 4) (K := 1) (g := g5) (N := W) (cap := W) j rfl hr.1 rfl rfl (by kernel_rfl) (by kernel_rfl) (by kernel_rfl) hlt6 ww) ?_
 refine fh 0 [8,9,10,11,12,19,21,22,23,174,177] [] (.bool (decide (0 ≤ y3))) rfl (fun _ _ _ ww hr => dD (po := 0) (j := j) (row := [.bool (decide (0 ≤ y3))]) (ap w.heap.size 4 1 (.slice (some ⟨g5,0,none⟩) W W) ((dA W sl).map cx)) hr rfl (by kernel_rfl) (by simp) (by simp only [List.getElem?_map,io hlt6 hy3]; rfl) (by kernel_rfl) rfl rfl rfl) ?_
 refine aR [8,9,10,11,12,19,21,22,23,179] [(179,aB (decide (0 ≤ y3)))] <| kC (decide (0 ≤ y3)) (fun h23 => ?_) (fun h23 => ?_)
 have h23p := of_decide_eq_true h23
 have hy3p := of_decide_eq_true h23
 refine kK <| aZ <| kG <| cA 3 [8,9,10,11,12,19,21,22,23] [(22,aI (K6.wrap ((j : Int) + 1)))] ?_
 refine cJ [8,9,10,11,12,19,21,22,23] [(22,aI (K6.wrap ((j : Int) + 1)))] [(22,aI ((j : Int) + 1))] (by rw [show (K6.wrap ((j : Int) + 1)) = ((j : Int) + 1) from ab (by omega) (by omega)]) (by kernel_rfl) ?_
 refine aR [8,9,10,11,12,19,21,22,23] [] ?_
 exact ⟨⟨(j + 1),⟨(by (try dsimp only); omega),run_more hij.1 hrun hy3 (by omega)⟩⟩,kF 4 0 [8,9,10,11,12,19,21,22,23],by show (fun (j : Nat) => W - j) (j + 1) < W - j; (dsimp only; omega)⟩
 have h23p := of_decide_eq_false h23
 have hy3p := of_decide_eq_false h23
 refine cq ?_
 exact ⟨⟨(j),⟨(by first | omega | (have hne : i ≠ j := (fun e => (by subst e; rw [hy2] at hy3; simp only [Option.some.injEq] at hy3; omega)); omega)),hrun,(by first | exact fun z hz => by rw [hy3] at hz; simp only [Option.some.injEq] at hz; omega | exact fun z hz => by rw [hbe j (by omega) (by omega)] at hz; simp only [Option.some.injEq] at hz; omega)⟩⟩,kF 4 0 [8,9,10,11,12,19,21,22,23]⟩
 have h22p := of_decide_eq_false h22
 have hge6 : j = W := by simp at h22; omega
 refine aR [8,9,10,11,12,19,21,22,23,179] [(179,aB false)] <| kN <| cq ?_
 exact ⟨⟨(j),⟨(by first | omega | (have hne : i ≠ j := (fun e => (by subst e; rw [hy2] at hy3; simp only [Option.some.injEq] at hy3; omega)); omega)),hrun,(by first | exact fun z hz => by rw [hy3] at hz; simp only [Option.some.injEq] at hz; omega | exact fun z hz => by rw [hbe j (by omega) (by omega)] at hz; simp only [Option.some.injEq] at hz; omega)⟩⟩,kF 4 0 [8,9,10,11,12,19,21,22,23]⟩
 rintro ⟨j,hij,hrun,hstop⟩
 try dsimp only
 try dsimp only at hij hrun hstop
 refine fY (α := Option Addr × Nat × Nat) (fun y => (fun (v27a : Option Addr) (v27c : Nat) (g25 : Nat) => (⟨[(8,.p 1 0),(9,.p 2 0),(10,aI (W : Int)),(11,aP gd),(12,aP gh),(19,.p 3 0),(21,aI (n2 : Int)),(22,aI (j : Int))],[⟨41,ah r (.slice Arh r.held.length Crh)⟩,⟨41,dl⟩,⟨41,ah r (.slice v1a r.held.length v1c)⟩,⟨41,[iI (sA r.next (n2 : Int)),.string (r.data ++ (am (sl.take n2))),.slice v27a ((out ++ ([⟨((i - n2 : Nat) : Int),am (((bY W sl).drop i).take (j - i))⟩] : List Pce)).length) v27c,iI fp,.bool r.done]⟩],[],[ap w.heap.size 85 2 (.slice v27a ((out ++ ([⟨((i - n2 : Nat) : Int),am (((bY W sl).drop i).take (j - i))⟩] : List Pce)).length) v27c) ((out ++ ([⟨((i - n2 : Nat) : Int),am (((bY W sl).drop i).take (j - i))⟩] : List Pce)).map pC),ap w.heap.size 85 2 (.slice (some ⟨g25,0,none⟩) 1 1) (([⟨((i - n2 : Nat) : Int),am (((bY W sl).drop i).take (j - i))⟩] : List Pce).map pC),cy w.heap.size gh 122 [.slice (some ⟨g5,0,none⟩) W W],cy w.heap.size gd 57 [.slice (some ⟨g4,0,none⟩) W W],ap w.heap.size 4 1 (.slice (some ⟨g5,0,none⟩) W W) ((dA W sl).map cx),ap w.heap.size 5 1 (.slice (some ⟨g4,0,none⟩) W W) ((bY W sl).map bR),aF w.heap.size (.slice v1a r.held.length v1c) 2 (r.held.map pC),c7 (.slice Arh r.held.length Crh) 2 (r.held.map pC)]⟩ : St)) y.1 y.2.1 y.2.2) ?_ ?_
 refine bc [true,true,true,false] (by kernel_rfl) (fun ρ σ => ?_)
 refine ca [0,2,3,4,6,7] [189,188,186,182,8,9,10,11,12,19,21,22] 9 [(189,aI (j : Int)),(188,aI (i : Int)),(186,aI (K6.wrap ((i : Int) - (n2 : Int)))),(182,.p 3 2),(8,.p 1 0),(9,.p 2 0),(10,aI (W : Int)),(11,aP gd),(12,aP gh),(19,.p 3 0),(21,aI (n2 : Int)),(22,aI (j : Int))] <| gx [189,188,186,182,8,9,10,11,12,19,21,22] [(186,aI (K6.wrap ((i : Int) - (n2 : Int))))] [(186,aI ((i - n2 : Nat) : Int))] (by rw [show (K6.wrap ((i : Int) - (n2 : Int))) = ((i - n2 : Nat) : Int) from by rw [ab (by omega) (by omega)]; omega]) (by kernel_rfl) ?_
 refine kA [1,5] ⟨?_,?_⟩
 refine fV 1 (.v (.slice A1 out.length c1)) rfl <| kA [5] <| i7 5 (.slice (some ⟨g4,0,none⟩) W W) rfl (fun _ _ ww hr => fX (off := 0) (B := w.heap.size) (g := gd) (T := 57) (cs := [.slice (some ⟨g4,0,none⟩) W W]) hr rfl (by kernel_rfl) (by simp) (by kernel_rfl)) ?_
 refine kA [8] <| i7 8 (.slice (if W = i then (some ⟨g4,0,none⟩ : Option Addr) else (some ⟨g4,0,none⟩ : Option Addr).map (·.add (i * 1))) (j - i) (W - i)) rfl (fun _ _ ww hr => act_slV (e := 5) (A := some ⟨g4,0,none⟩) (len := W) (cap := W) (K := 1) (k := .i64) (p' := (i : Int)) (k' := .i64) (q' := (j : Int)) i j hr.1 rfl (by kernel_rfl) (by kernel_rfl) (by kernel_rfl) (by kernel_rfl) (by kernel_rfl) rfl rfl (by omega) (Nat.le_trans (show j ≤ W by omega) (Sl.capLe (aS (hr.2.fact (ap w.heap.size 5 1 (.slice (some ⟨g4,0,none⟩) W W) ((bY W sl).map bR)) (by simp)).1))) ww) ?_
 refine kA [9] <| i7 9 (.string (am (((bY W sl).drop i).take (j - i)))) rfl (fun _ _ ww hr => cb (e := 5) (((bY W sl).drop i).take (j - i)) hr.1 rfl (by kernel_rfl) (by kernel_rfl) (by kernel_rfl) rfl (Sl.partM (aS (hr.2.fact (ap w.heap.size 5 1 (.slice (some ⟨g4,0,none⟩) W W) ((bY W sl).map bR)) (by simp)).1) i j (by omega) (by omega))) ?_
 refine kX 10 (.agg (ff (⟨((i - n2 : Nat) : Int),am (((bY W sl).drop i).take (j - i))⟩ : Pce)).toArray) rfl (fun _ _ ww hA => aN [(0,iI ((i - n2 : Nat) : Int)),(1,.string (am (((bY W sl).drop i).take (j - i))))] hA rfl (by kernel_rfl) (by kernel_rfl) ww) ?_
 refine kA [11] <| gj 11 rfl (ax (ax (ax (bz rfl ar)))) (bi (e := 85) (K := 2) (bytes := 24) [.agg (ff (⟨((i - n2 : Nat) : Int),am (((bY W sl).drop i).take (j - i))⟩ : Pce)).toArray] (rs := ([⟨((i - n2 : Nat) : Int),am (((bY W sl).drop i).take (j - i))⟩] : List Pce).map pC) rfl rfl) ?_
 intro g25
 refine kA [12] <| gj 12 rfl (ax (ax (ax (bz rfl ar)))) (dt (e := 85) (K := 2) (bytes := 24) (i := 1) (q := (out ++ ([⟨((i - n2 : Nat) : Int),am (((bY W sl).drop i).take (j - i))⟩] : List Pce)).length) (new := ([⟨((i - n2 : Nat) : Int),am (((bY W sl).drop i).take (j - i))⟩] : List Pce).map pC) (rs' := (out ++ ([⟨((i - n2 : Nat) : Int),am (((bY W sl).drop i).take (j - i))⟩] : List Pce)).map pC) rfl rfl rfl rfl (by kernel_rfl) (by kernel_rfl) (by kernel_rfl) rfl (by first | (simp; done) | (simp; omega)) (by rw [List.map_append]) (by first | (simp; done) | (simp; omega)) (fun ww hf => (aS (hf (ap w.heap.size 85 2 (.slice (some ⟨g25,0,none⟩) 1 1) (([⟨((i - n2 : Nat) : Int),am (((bY W sl).drop i).take (j - i))⟩] : List Pce).map pC)) (by simp)))) (by intro r hr; obtain ⟨x,hx,rfl⟩ := List.mem_map.1 hr; exact ⟨rfl,by simp [pC,Value.oneCell']⟩) (by (try simp only [List.length_map,List.length_append,List.length_cons,List.length_nil,List.length_take,List.length_drop,maxLen]); omega) (by (try simp only [List.length_map,List.length_append,List.length_cons,List.length_nil,List.length_take,List.length_drop,maxLen]); omega)) ?_
 rintro ⟨v27a,v27c⟩
 refine ca [13] [195,194,8,9,10,11,12,19,21,22] 1 [(195,.p 3 2),(194,.v (.slice v27a ((out ++ ([⟨((i - n2 : Nat) : Int),am (((bY W sl).drop i).take (j - i))⟩] : List Pce)).length) v27c)),(8,.p 1 0),(9,.p 2 0),(10,aI (W : Int)),(11,aP gd),(12,aP gh),(19,.p 3 0),(21,aI (n2 : Int)),(22,aI (j : Int))] <| kA [14] <| e8 14 3 2 [.slice v27a ((out ++ ([⟨((i - n2 : Nat) : Int),am (((bY W sl).drop i).take (j - i))⟩] : List Pce)).length) v27c] rfl <| kZ ?_
 exact ⟨(v27a,v27c,g25),kF 4 0 [8,9,10,11,12,19,21,22]⟩
 refine i7 5 (.slice (some ⟨g4,0,none⟩) W W) rfl (fun _ _ ww hr => fX (off := 0) (B := w.heap.size) (g := gd) (T := 57) (cs := [.slice (some ⟨g4,0,none⟩) W W]) hr rfl (by kernel_rfl) (by simp) (by kernel_rfl)) ?_
 refine kA [1,8] ⟨?_,?_⟩
 refine fV 1 (.v (.slice A1 out.length c1)) rfl <| kA [8] <| i7 8 (.slice (if W = i then (some ⟨g4,0,none⟩ : Option Addr) else (some ⟨g4,0,none⟩ : Option Addr).map (·.add (i * 1))) (j - i) (W - i)) rfl (fun _ _ ww hr => act_slV (e := 5) (A := some ⟨g4,0,none⟩) (len := W) (cap := W) (K := 1) (k := .i64) (p' := (i : Int)) (k' := .i64) (q' := (j : Int)) i j hr.1 rfl (by kernel_rfl) (by kernel_rfl) (by kernel_rfl) (by kernel_rfl) (by kernel_rfl) rfl rfl (by omega) (Nat.le_trans (show j ≤ W by omega) (Sl.capLe (aS (hr.2.fact (ap w.heap.size 5 1 (.slice (some ⟨g4,0,none⟩) W W) ((bY W sl).map bR)) (by simp)).1))) ww) ?_
 refine kA [9] <| i7 9 (.string (am (((bY W sl).drop i).take (j - i)))) rfl (fun _ _ ww hr => cb (e := 5) (((bY W sl).drop i).take (j - i)) hr.1 rfl (by kernel_rfl) (by kernel_rfl) (by kernel_rfl) rfl (Sl.partM (aS (hr.2.fact (ap w.heap.size 5 1 (.slice (some ⟨g4,0,none⟩) W W) ((bY W sl).map bR)) (by simp)).1) i j (by omega) (by omega))) ?_
 refine kX 10 (.agg (ff (⟨((i - n2 : Nat) : Int),am (((bY W sl).drop i).take (j - i))⟩ : Pce)).toArray) rfl (fun _ _ ww hA => aN [(0,iI ((i - n2 : Nat) : Int)),(1,.string (am (((bY W sl).drop i).take (j - i))))] hA rfl (by kernel_rfl) (by kernel_rfl) ww) ?_
 refine kA [11] <| gj 11 rfl (ax (ax (ax (bz rfl ar)))) (bi (e := 85) (K := 2) (bytes := 24) [.agg (ff (⟨((i - n2 : Nat) : Int),am (((bY W sl).drop i).take (j - i))⟩ : Pce)).toArray] (rs := ([⟨((i - n2 : Nat) : Int),am (((bY W sl).drop i).take (j - i))⟩] : List Pce).map pC) rfl rfl) ?_
 intro g29
 refine kA [12] <| gj 12 rfl (ax (ax (ax (bz rfl ar)))) (dt (e := 85) (K := 2) (bytes := 24) (i := 1) (q := (out ++ ([⟨((i - n2 : Nat) : Int),am (((bY W sl).drop i).take (j - i))⟩] : List Pce)).length) (new := ([⟨((i - n2 : Nat) : Int),am (((bY W sl).drop i).take (j - i))⟩] : List Pce).map pC) (rs' := (out ++ ([⟨((i - n2 : Nat) : Int),am (((bY W sl).drop i).take (j - i))⟩] : List Pce)).map pC) rfl rfl rfl rfl (by kernel_rfl) (by kernel_rfl) (by kernel_rfl) rfl (by first | (simp; done) | (simp; omega)) (by rw [List.map_append]) (by first | (simp; done) | (simp; omega)) (fun ww hf => (aS (hf (ap w.heap.size 85 2 (.slice (some ⟨g29,0,none⟩) 1 1) (([⟨((i - n2 : Nat) : Int),am (((bY W sl).drop i).take (j - i))⟩] : List Pce).map pC)) (by simp)))) (by intro r hr; obtain ⟨x,hx,rfl⟩ := List.mem_map.1 hr; exact ⟨rfl,by simp [pC,Value.oneCell']⟩) (by (try simp only [List.length_map,List.length_append,List.length_cons,List.length_nil,List.length_take,List.length_drop,maxLen]); omega) (by (try simp only [List.length_map,List.length_append,List.length_cons,List.length_nil,List.length_take,List.length_drop,maxLen]); omega)) ?_
 rintro ⟨v31a,v31c⟩
 refine ca [13] [195,194,8,9,10,11,12,19,21,22] 1 [(195,.p 3 2),(194,.v (.slice v31a ((out ++ ([⟨((i - n2 : Nat) : Int),am (((bY W sl).drop i).take (j - i))⟩] : List Pce)).length) v31c)),(8,.p 1 0),(9,.p 2 0),(10,aI (W : Int)),(11,aP gd),(12,aP gh),(19,.p 3 0),(21,aI (n2 : Int)),(22,aI (j : Int))] <| kA [14] <| e8 14 3 2 [.slice v31a ((out ++ ([⟨((i - n2 : Nat) : Int),am (((bY W sl).drop i).take (j - i))⟩] : List Pce)).length) v31c] rfl <| kZ ?_
 exact ⟨(v31a,v31c,g29),kF 4 0 [8,9,10,11,12,19,21,22]⟩
 refine i7 8 (.slice (if W = i then (some ⟨g4,0,none⟩ : Option Addr) else (some ⟨g4,0,none⟩ : Option Addr).map (·.add (i * 1))) (j - i) (W - i)) rfl (fun _ _ ww hr => act_slV (e := 5) (A := some ⟨g4,0,none⟩) (len := W) (cap := W) (K := 1) (k := .i64) (p' := (i : Int)) (k' := .i64) (q' := (j : Int)) i j hr.1 rfl (by kernel_rfl) (by kernel_rfl) (by kernel_rfl) (by kernel_rfl) (by kernel_rfl) rfl rfl (by omega) (Nat.le_trans (show j ≤ W by omega) (Sl.capLe (aS (hr.2.fact (ap w.heap.size 5 1 (.slice (some ⟨g4,0,none⟩) W W) ((bY W sl).map bR)) (by simp)).1))) ww) ?_
 refine kA [1,9] ⟨?_,?_⟩
 refine fV 1 (.v (.slice A1 out.length c1)) rfl <| kA [9] <| i7 9 (.string (am (((bY W sl).drop i).take (j - i)))) rfl (fun _ _ ww hr => cb (e := 5) (((bY W sl).drop i).take (j - i)) hr.1 rfl (by kernel_rfl) (by kernel_rfl) (by kernel_rfl) rfl (Sl.partM (aS (hr.2.fact (ap w.heap.size 5 1 (.slice (some ⟨g4,0,none⟩) W W) ((bY W sl).map bR)) (by simp)).1) i j (by omega) (by omega))) ?_
 refine kX 10 (.agg (ff (⟨((i - n2 : Nat) : Int),am (((bY W sl).drop i).take (j - i))⟩ : Pce)).toArray) rfl (fun _ _ ww hA => aN [(0,iI ((i - n2 : Nat) : Int)),(1,.string (am (((bY W sl).drop i).take (j - i))))] hA rfl (by kernel_rfl) (by kernel_rfl) ww) ?_
 refine kA [11] <| gj 11 rfl (ax (ax (ax (bz rfl ar)))) (bi (e := 85) (K := 2) (bytes := 24) [.agg (ff (⟨((i - n2 : Nat) : Int),am (((bY W sl).drop i).take (j - i))⟩ : Pce)).toArray] (rs := ([⟨((i - n2 : Nat) : Int),am (((bY W sl).drop i).take (j - i))⟩] : List Pce).map pC) rfl rfl) ?_
 intro g33
 refine kA [12] <| gj 12 rfl (ax (ax (ax (bz rfl ar)))) (dt (e := 85) (K := 2) (bytes := 24) (i := 1) (q := (out ++ ([⟨((i - n2 : Nat) : Int),am (((bY W sl).drop i).take (j - i))⟩] : List Pce)).length) (new := ([⟨((i - n2 : Nat) : Int),am (((bY W sl).drop i).take (j - i))⟩] : List Pce).map pC) (rs' := (out ++ ([⟨((i - n2 : Nat) : Int),am (((bY W sl).drop i).take (j - i))⟩] : List Pce)).map pC) rfl rfl rfl rfl (by kernel_rfl) (by kernel_rfl) (by kernel_rfl) rfl (by first | (simp; done) | (simp; omega)) (by rw [List.map_append]) (by first | (simp; done) | (simp; omega)) (fun ww hf => (aS (hf (ap w.heap.size 85 2 (.slice (some ⟨g33,0,none⟩) 1 1) (([⟨((i - n2 : Nat) : Int),am (((bY W sl).drop i).take (j - i))⟩] : List Pce).map pC)) (by simp)))) (by intro r hr; obtain ⟨x,hx,rfl⟩ := List.mem_map.1 hr; exact ⟨rfl,by simp [pC,Value.oneCell']⟩) (by (try simp only [List.length_map,List.length_append,List.length_cons,List.length_nil,List.length_take,List.length_drop,maxLen]); omega) (by (try simp only [List.length_map,List.length_append,List.length_cons,List.length_nil,List.length_take,List.length_drop,maxLen]); omega)) ?_
 rintro ⟨v35a,v35c⟩
 refine ca [13] [195,194,8,9,10,11,12,19,21,22] 1 [(195,.p 3 2),(194,.v (.slice v35a ((out ++ ([⟨((i - n2 : Nat) : Int),am (((bY W sl).drop i).take (j - i))⟩] : List Pce)).length) v35c)),(8,.p 1 0),(9,.p 2 0),(10,aI (W : Int)),(11,aP gd),(12,aP gh),(19,.p 3 0),(21,aI (n2 : Int)),(22,aI (j : Int))] <| kA [14] <| e8 14 3 2 [.slice v35a ((out ++ ([⟨((i - n2 : Nat) : Int),am (((bY W sl).drop i).take (j - i))⟩] : List Pce)).length) v35c] rfl <| kZ ?_
 exact ⟨(v35a,v35c,g33),kF 4 0 [8,9,10,11,12,19,21,22]⟩
 refine i7 9 (.string (am (((bY W sl).drop i).take (j - i)))) rfl (fun _ _ ww hr => cb (e := 5) (((bY W sl).drop i).take (j - i)) hr.1 rfl (by kernel_rfl) (by kernel_rfl) (by kernel_rfl) rfl (Sl.partM (aS (hr.2.fact (ap w.heap.size 5 1 (.slice (some ⟨g4,0,none⟩) W W) ((bY W sl).map bR)) (by simp)).1) i j (by omega) (by omega))) ?_
 refine kX 10 (.agg (ff (⟨((i - n2 : Nat) : Int),am (((bY W sl).drop i).take (j - i))⟩ : Pce)).toArray) rfl (fun _ _ ww hA => aN [(0,iI ((i - n2 : Nat) : Int)),(1,.string (am (((bY W sl).drop i).take (j - i))))] hA rfl (by kernel_rfl) (by kernel_rfl) ww) ?_
 refine kA [1,11] ⟨?_,?_⟩
 refine fV 1 (.v (.slice A1 out.length c1)) rfl <| kA [11] <| gj 11 rfl (ax (ax (ax (bz rfl ar)))) (bi (e := 85) (K := 2) (bytes := 24) [.agg (ff (⟨((i - n2 : Nat) : Int),am (((bY W sl).drop i).take (j - i))⟩ : Pce)).toArray] (rs := ([⟨((i - n2 : Nat) : Int),am (((bY W sl).drop i).take (j - i))⟩] : List Pce).map pC) rfl rfl) ?_
 intro g38
 refine kA [12] <| gj 12 rfl (ax (ax (ax (bz rfl ar)))) (dt (e := 85) (K := 2) (bytes := 24) (i := 1) (q := (out ++ ([⟨((i - n2 : Nat) : Int),am (((bY W sl).drop i).take (j - i))⟩] : List Pce)).length) (new := ([⟨((i - n2 : Nat) : Int),am (((bY W sl).drop i).take (j - i))⟩] : List Pce).map pC) (rs' := (out ++ ([⟨((i - n2 : Nat) : Int),am (((bY W sl).drop i).take (j - i))⟩] : List Pce)).map pC) rfl rfl rfl rfl (by kernel_rfl) (by kernel_rfl) (by kernel_rfl) rfl (by first | (simp; done) | (simp; omega)) (by rw [List.map_append]) (by first | (simp; done) | (simp; omega)) (fun ww hf => (aS (hf (ap w.heap.size 85 2 (.slice (some ⟨g38,0,none⟩) 1 1) (([⟨((i - n2 : Nat) : Int),am (((bY W sl).drop i).take (j - i))⟩] : List Pce).map pC)) (by simp)))) (by intro r hr; obtain ⟨x,hx,rfl⟩ := List.mem_map.1 hr; exact ⟨rfl,by simp [pC,Value.oneCell']⟩) (by (try simp only [List.length_map,List.length_append,List.length_cons,List.length_nil,List.length_take,List.length_drop,maxLen]); omega) (by (try simp only [List.length_map,List.length_append,List.length_cons,List.length_nil,List.length_take,List.length_drop,maxLen]); omega)) ?_
 rintro ⟨v40a,v40c⟩
 refine ca [13] [195,194,8,9,10,11,12,19,21,22] 1 [(195,.p 3 2),(194,.v (.slice v40a ((out ++ ([⟨((i - n2 : Nat) : Int),am (((bY W sl).drop i).take (j - i))⟩] : List Pce)).length) v40c)),(8,.p 1 0),(9,.p 2 0),(10,aI (W : Int)),(11,aP gd),(12,aP gh),(19,.p 3 0),(21,aI (n2 : Int)),(22,aI (j : Int))] <| kA [14] <| e8 14 3 2 [.slice v40a ((out ++ ([⟨((i - n2 : Nat) : Int),am (((bY W sl).drop i).take (j - i))⟩] : List Pce)).length) v40c] rfl <| kZ ?_
 exact ⟨(v40a,v40c,g38),kF 4 0 [8,9,10,11,12,19,21,22]⟩
 refine gj 11 rfl (ax (ax (ax (bz rfl ar)))) (bi (e := 85) (K := 2) (bytes := 24) [.agg (ff (⟨((i - n2 : Nat) : Int),am (((bY W sl).drop i).take (j - i))⟩ : Pce)).toArray] (rs := ([⟨((i - n2 : Nat) : Int),am (((bY W sl).drop i).take (j - i))⟩] : List Pce).map pC) rfl rfl) ?_
 intro g41
 refine kA [1] <| fV 1 (.v (.slice A1 out.length c1)) rfl <| kA [12] <| gj 12 rfl (ax (ax (ax (bz rfl ar)))) (dt (e := 85) (K := 2) (bytes := 24) (i := 1) (q := (out ++ ([⟨((i - n2 : Nat) : Int),am (((bY W sl).drop i).take (j - i))⟩] : List Pce)).length) (new := ([⟨((i - n2 : Nat) : Int),am (((bY W sl).drop i).take (j - i))⟩] : List Pce).map pC) (rs' := (out ++ ([⟨((i - n2 : Nat) : Int),am (((bY W sl).drop i).take (j - i))⟩] : List Pce)).map pC) rfl rfl rfl rfl (by kernel_rfl) (by kernel_rfl) (by kernel_rfl) rfl (by first | (simp; done) | (simp; omega)) (by rw [List.map_append]) (by first | (simp; done) | (simp; omega)) (fun ww hf => (aS (hf (ap w.heap.size 85 2 (.slice (some ⟨g41,0,none⟩) 1 1) (([⟨((i - n2 : Nat) : Int),am (((bY W sl).drop i).take (j - i))⟩] : List Pce).map pC)) (by simp)))) (by intro r hr; obtain ⟨x,hx,rfl⟩ := List.mem_map.1 hr; exact ⟨rfl,by simp [pC,Value.oneCell']⟩) (by (try simp only [List.length_map,List.length_append,List.length_cons,List.length_nil,List.length_take,List.length_drop,maxLen]); omega) (by (try simp only [List.length_map,List.length_append,List.length_cons,List.length_nil,List.length_take,List.length_drop,maxLen]); omega)) ?_
 rintro ⟨v43a,v43c⟩
 refine ca [13] [195,194,8,9,10,11,12,19,21,22] 1 [(195,.p 3 2),(194,.v (.slice v43a ((out ++ ([⟨((i - n2 : Nat) : Int),am (((bY W sl).drop i).take (j - i))⟩] : List Pce)).length) v43c)),(8,.p 1 0),(9,.p 2 0),(10,aI (W : Int)),(11,aP gd),(12,aP gh),(19,.p 3 0),(21,aI (n2 : Int)),(22,aI (j : Int))] <| kA [14] <| e8 14 3 2 [.slice v43a ((out ++ ([⟨((i - n2 : Nat) : Int),am (((bY W sl).drop i).take (j - i))⟩] : List Pce)).length) v43c] rfl <| kZ ?_
 exact ⟨(v43a,v43c,g41),kF 4 0 [8,9,10,11,12,19,21,22]⟩
 rintro ⟨v27a,v27c,g25⟩
 exact ⟨⟨(j,(out ++ ([⟨((i - n2 : Nat) : Int),am (((bY W sl).drop i).take (j - i))⟩] : List Pce)),v27a,v27c),⟨(by (try dsimp only); omega),(by rw [dt_part (by omega) hrun,HP]; exact pcs_piece (by omega) hij.1 (by omega) hrun (htc y2 hy2 (by omega))),(bd_more hbd (by omega) (by rw [bL,List.length_take,List.length_drop,dtOf_len (by omega)]; omega)),(fun x hx h0 => by have := hstop x hx; omega),(by (try dsimp only); (try simp only [List.length_append,List.length_cons,List.length_nil]); omega)⟩⟩,ei [0,2,3,4,5,6,7] <| kF 4 0 [8,9,10,11,12,19,21,22],by show (fun (i : Nat) (out : List Pce) (A1 : Option Addr) (c1 : Nat) => W - i) j (out ++ ([⟨((i - n2 : Nat) : Int),am (((bY W sl).drop i).take (j - i))⟩] : List Pce)) v27a v27c < W - i; (dsimp only; omega)⟩
 have h20p := of_decide_eq_false h20
 have hge5 : i = W := by simp at h20; omega
 have hpc : fl [] 0 (sl.drop n2) = out := by rw [HP,hge5]; exact pcs_neg out _ _ (beyond_neg hbe hl)
 refine cq <| kS <| kQ <| aR [8,9,19,199] [(199,aB (decide (((out.length : Nat) : Int) > 3)))] ?_
 refine kC (decide (((out.length : Nat) : Int) > 3)) (fun h44 => ?_) (fun h44 => ?_)
 have h44p := of_decide_eq_true h44
 refine kQ <| bf [8] [(8,.p 1 0)] 1 ⟨41,ah r (.slice v1a r.held.length v1c)⟩ <| kR ?_
 have hmod : av r seq text fin = r := by first | exact du hrk (by assumption) (by rw [← hall,← hnf,hpc]; omega) | (unfold av; rw [if_neg (by grind)]; done) | (unfold av; rw [if_pos (by grind),← hall,← hnf,hpc,← hfp]; first | (rw [if_pos (by omega)]; done) | (rw [if_neg (by omega),if_pos (by first | omega | simp_all)]; done) | (rw [if_neg (by omega),if_neg (by first | omega | simp_all)]; done))
 exact ⟨[.agg (ah r (.slice v1a r.held.length v1c)).toArray],by kernel_rfl,fun w' hb hf ha => by rw [hmod]; exact im ((v1a,v1c)) rfl rfl (pO (hf _ m5) hB) hb⟩
 have h44p := of_decide_eq_false h44
 refine kK <| kS <| kQ <| aR [8,19,203] [(203,aB (fp == 0))] ?_
 refine kC (fp == 0) (fun h45 => ?_) (fun h45 => ?_)
 have h45p := bC h45
 refine kQ <| bf [8,19] [] 3 ⟨41,[iI (sA r.next (n2 : Int)),.string (r.data ++ (am (sl.take n2))),.slice A1 out.length c1,iI fp,.bool true]⟩ <| kQ <| bf [8,19] [] 3 ⟨41,[iI (sA r.next (n2 : Int)),.string (r.data ++ (am (sl.take n2))),.slice A1 out.length c1,iI (-1),.bool true]⟩ ?_
 refine kG <| dy 2 [8,19,207] [(207,aI (sA r.next (n2 : Int)))] 115 [iI (sA r.next (n2 : Int)),iI 1] (some 208) rfl (bM fun ww hf => gc (sA r.next (n2 : Int)) 1 ww ) ?_
 intro _
 refine c8 [8,19] ⟨[(8,.p 1 0),(19,.p 3 0)],[⟨41,ah r (.slice Arh r.held.length Crh)⟩,⟨41,dl⟩,⟨41,ah r (.slice v1a r.held.length v1c)⟩,⟨41,[iI (sA (sA r.next (n2 : Int)) 1),.string (r.data ++ (am (sl.take n2))),.slice A1 out.length c1,iI (-1),.bool true]⟩],[],[ap w.heap.size 85 2 (.slice A1 out.length c1) (out.map pC),cy w.heap.size gh 122 [.slice (some ⟨g5,0,none⟩) W W],cy w.heap.size gd 57 [.slice (some ⟨g4,0,none⟩) W W],ap w.heap.size 4 1 (.slice (some ⟨g5,0,none⟩) W W) ((dA W sl).map cx),ap w.heap.size 5 1 (.slice (some ⟨g4,0,none⟩) W W) ((bY W sl).map bR),aF w.heap.size (.slice v1a r.held.length v1c) 2 (r.held.map pC),c7 (.slice Arh r.held.length Crh) 2 (r.held.map pC)]⟩ <| kQ <| bf [8] [(8,.p 1 0)] 1 ⟨41,[iI (sA (sA r.next (n2 : Int)) 1),.string (r.data ++ (am (sl.take n2))),.slice A1 out.length c1,iI (-1),.bool true]⟩ <| kR ?_
 have hmod : av r seq text fin = (⟨sA (sA r.next (n2 : Int)) 1,r.data ++ (am (sl.take n2)),out,(-1),true⟩) := by first | exact du hrk (by assumption) (by rw [← hall,← hnf,hpc]; omega) | (unfold av; rw [if_neg (by grind)]; done) | (unfold av; rw [if_pos (by grind),← hall,← hnf,hpc,← hfp]; first | (rw [if_pos (by omega)]; done) | (rw [if_neg (by omega),if_pos (by first | omega | simp_all)]; done) | (rw [if_neg (by omega),if_neg (by first | omega | simp_all)]; done))
 exact ⟨[.agg #[iI (sA (sA r.next (n2 : Int)) 1),.string (r.data ++ (am (sl.take n2))),.slice A1 out.length c1,iI (-1),.bool true]],by kernel_rfl,fun w' hb hf ha => by rw [hmod]; exact im ((A1,c1)) rfl rfl (pR (hf _ m0) hB) hb⟩
 have h45p := bA h45
 refine kK <| kQ <| bf [8] [(8,.p 1 0)] 1 ⟨41,[iI (sA r.next (n2 : Int)),.string (r.data ++ (am (sl.take n2))),.slice A1 out.length c1,iI fp,.bool r.done]⟩ <| kR ?_
 have hmod : av r seq text fin = (⟨sA r.next (n2 : Int),r.data ++ (am (sl.take n2)),out,fp,r.done⟩) := by first | exact du hrk (by assumption) (by rw [← hall,← hnf,hpc]; omega) | (unfold av; rw [if_neg (by grind)]; done) | (unfold av; rw [if_pos (by grind),← hall,← hnf,hpc,← hfp]; first | (rw [if_pos (by omega)]; done) | (rw [if_neg (by omega),if_pos (by first | omega | simp_all)]; done) | (rw [if_neg (by omega),if_neg (by first | omega | simp_all)]; done))
 exact ⟨[.agg #[iI (sA r.next (n2 : Int)),.string (r.data ++ (am (sl.take n2))),.slice A1 out.length c1,iI fp,.bool r.done]],by kernel_rfl,fun w' hb hf ha => by rw [hmod]; exact im ((A1,c1)) rfl rfl (pR (hf _ m0) hB) hb⟩
theorem yiHeard_c (c : Con) (rV : Value) (g : Seg) (w : World) (hZ : Sl w rV 2 (c.r.held.map pC)) (hkn : c.r.held.length ≤ 1048576)(hgz : g.body.size ≤ 1048576) (hm : ∀ p ∈ c.r.held, p.text.size ≤ 1048576) (hsz : c.r.data.size ≤ 4611686018427387904) (B : Nat) (hB : B ≤ w.heap.size) : Calls Tryz.prog 27 #[.agg (a7 c rV).toArray, .agg (aG g).toArray] w fun e w' => XRs w w' e (α := Option Addr × Nat) (fun y => .agg (a7 (heard c g) (.slice y.1 ((heard c g).r.held.length) y.2)).toArray) (fun y => [aF B (.slice y.1 ((heard c g).r.held.length) y.2) 2 ((heard c g).r.held.map pC)]) := by
 obtain ⟨Z,Y,hY⟩ := hZ.form
 rw [List.length_map] at hY; subst hY
 have hJ := hZ.len; rw [List.length_map] at hJ
 have hqcrh := Sl.capLe hZ
 refine ck (args := [.agg (a7 c (cS Z c Y)).toArray,.agg (aG g).toArray]) (fn := Tryz.f27) [cH Z c Y] Tryz.func27 rfl Tryz.ntmps27 rfl (by simp only [List.mem_cons,List.not_mem_nil,or_false,forall_eq_or_imp,forall_eq]; exact ⟨rfl,hZ⟩) ?_
 refine kQ <| c8 [2,3,4] ⟨[(2,.p 0 0),(3,.p 1 0),(4,.p 2 0)],[⟨44,a7 c (cS Z c Y)⟩,⟨50,aG g⟩,⟨44,bN⟩],[],[cH Z c Y]⟩ <| kS <| kQ <| dy 2 [2,3,4,8,9] [(8,.v (.agg (a7 c (cS Z c Y)).toArray)),(9,.v (.agg (aG g).toArray))] 42 [.agg (a7 c (cS Z c Y)).toArray,.agg (aG g).toArray] (some 10) rfl (aA fun ww hf => yiVerdict_c c (cS Z c Y) g ww (hf _ m0) (by omega) (by assumption) (by omega)) ?_
 intro _
 refine aR [2,3,4,11] [(11,aB ((a9 c g) != 5))] <| kC ((a9 c g) != 5) (fun h1 => ?_) (fun h1 => ?_)
 have h1p := neT h1
 have hv5 : ¬ a9 c g = 5 := by simpa using h1
 refine kQ <| dy 1 [4,12] [(12,.v (.agg (a7 c (cS Z c Y)).toArray))] 43 [.agg (a7 c (cS Z c Y)).toArray] (some 13) rfl (cZ fun ww hw hf => eO c (cS Z c Y) ww (hf _ m0) (by assumption) w.heap.size hw) ?_
 rintro ⟨v2a,v2c⟩
 refine bf [4] [(4,.p 2 0)] 2 ⟨44,a7 c (cS v2a c v2c)⟩ <| kR ?_
 have hmod : heard c g = c := by first | (unfold heard; rw [if_pos hv5,← hm5]; unfold cW; rw [if_pos (by assumption)]; done) | (unfold heard; rw [if_pos hv5,← hm5]; unfold cW; rw [if_pos (by unfold ci; simp [*]; done)]; done) | (unfold heard; rw [if_pos hv5,← hm5]; unfold cW; rw [if_neg (by unfold ci; simp; omega),← hmr]; done) | (unfold heard; rw [if_neg hv5]; done)
 exact ⟨[.agg (a7 c (cS v2a c v2c)).toArray],by kernel_rfl,fun w' hb hf ha => by rw [hmod]; exact im ((v2a,v2c)) rfl rfl (pO (hf _ m0) hB) hb⟩
 have h1p := neF h1
 have hv5 : a9 c g = 5 := by simpa using h1
 obtain ⟨hc1,hc2,hc3,-⟩ := gl hv5
 have hgw := gF hc3
 have hsc := gq (conOk_r hc1).2.1
 have hfw := farW_bd hgw (conOk_r hc1).2.1
 refine kK <| kQ <| dy 1 [2,3,4,14] [(14,.v (.agg (a7 c (cS Z c Y)).toArray))] 43 [.agg (a7 c (cS Z c Y)).toArray] (some 15) rfl (cZ fun ww hw hf => eO c (cS Z c Y) ww (hf _ m0) (by assumption) w.heap.size hw) ?_
 rintro ⟨v3a,v3c⟩
 refine i5 [2,3,4,5] [(5,.p 3 0)] [⟨44,a7 c (cS v3a c v3c)⟩] <| kS <| cf (α := {zz : Con // (fun (m : Con) => m = bm c g) zz}) (fun zz => (fun (m : Con) => (⟨[(2,.p 0 0),(3,.p 1 0),(4,.p 2 0),(5,.p 3 0)],[⟨44,a7 c (cS Z c Y)⟩,⟨50,aG g⟩,⟨44,bN⟩,⟨44,a7 m (cS v3a m v3c)⟩],[],[aF w.heap.size (cS v3a m v3c) 2 (m.r.held.map pC),cH Z c Y]⟩ : St)) zz.1) ?_ ?_
 refine kQ <| dy 4 [2,3,4,5,18,20] [(18,.v (.agg (ai c.s).toArray)),(20,aI g.ack)] 69 [.agg (ai c.s).toArray,iI g.ack] (some 21) rfl (aA fun ww hf => yiAcked_c c.s g.ack ww  ) ?_
 intro _
 refine i5 [2,3,4,5,6,7] [(6,.p 4 0),(7,aB ((ae c.s g.ack).2))] [⟨38,ai (ae c.s g.ack).1⟩] <| kQ <| aR [2,3,4,5,6,24] [(24,aB ((ae c.s g.ack).2))] <| kC ((ae c.s g.ack).2) (fun h4 => ?_) (fun h4 => ?_)
 refine kQ <| bf [2,3,4,5,6] [] 3 ⟨44,a7 { c with s := (ae c.s g.ack).1 } (cS v3a c v3c)⟩ <| kQ <| dy 4 [2,3,4,5,6,28,30] [(28,aI g.window),(30,.v (.agg (df c.o).toArray))] 70 [iI g.window,.agg (df c.o).toArray] (some 31) rfl (aA fun ww hf => yiscaled_c g.window c.o ww  (by omega) (by (try dsimp only); omega)) ?_
 intro _
 refine bf [2,3,4,5,6] [] 3 ⟨44,a7 { c with s := (ae c.s g.ack).1,window := (bI g.window c.o) } (cS v3a c v3c)⟩ <| kQ <| i8 4 [2,3,4,5,6,34,36] [(2,.p 0 0),(3,.p 1 0),(4,.p 2 0),(5,.p 3 0),(6,.p 4 0),(34,aI c.most),(36,aI (bI g.window c.o))] (iI (max c.most (bI g.window c.o))) rfl (fun _ _ _ ww hr => act_max2 (k := .i64) (k' := .i64) (p := c.most) (q := (bI g.window c.o)) hr.1 rfl rfl rfl (by kernel_rfl) (by kernel_rfl) ww) ?_
 refine bf [2,3,4,5,6] [] 3 ⟨44,a7 { c with s := (ae c.s g.ack).1,window := (bI g.window c.o),most := max c.most (bI g.window c.o) } (cS v3a c v3c)⟩ <| kQ <| cA 7 [2,3,4,5,6,45] [(45,aB (((ae c.s g.ack).1.una) != c.s.una))] <| kP 45 (((ae c.s g.ack).1.una) != c.s.una) (fun h5 => ?_) (fun h5 => ?_)
 have h5p := neT h5
 refine aR [2,3,4,5,6,54] [(54,aB (c.state != 7))] <| kC (c.state != 7) (fun h6 => ?_) (fun h6 => ?_)
 have h6p := neT h6
 refine kQ <| bf [2,3,4,5,6] [] 3 ⟨44,a7 { c with s := (ae c.s g.ack).1,window := (bI g.window c.o),most := max c.most (bI g.window c.o),tries := 0 } (cS v3a c v3c)⟩ <| kQ <| bf [2,3,4,5,6] [] 3 ⟨44,[iI c.t.ip,iI c.t.port,iI c.t.my,iI c.state,iI ((ae c.s g.ack).1.una),.string ((ae c.s g.ack).1.data),iI ((ae c.s g.ack).1.sent),.bool ((ae c.s g.ack).1.fin),.bool ((ae c.s g.ack).1.finSent),.bool ((ae c.s g.ack).1.done),iI c.r.next,.string c.r.data,.slice v3a c.r.held.length v3c,iI c.r.fin,.bool c.r.done,iI (bI g.window c.o),iI (max c.most (bI g.window c.o)),iI c.o.mss,iI c.o.scale,.bool c.o.sack,.bool c.o.stamp,iI c.o.val,iI c.o.echo,iI 0,iI 0]⟩ ?_
 refine kQ <| dy 1 [2,3,4,5,57] [(57,.v (.agg (ai (ae c.s g.ack).1).toArray))] 71 [.agg (ai (ae c.s g.ack).1).toArray] (some 58) rfl (aA fun ww hf => gU ((ae c.s g.ack).1.una) ((ae c.s g.ack).1.data) ((ae c.s g.ack).1.sent) ((ae c.s g.ack).1.fin) ((ae c.s g.ack).1.finSent) ((ae c.s g.ack).1.done) ww ) ?_
 intro _
 refine aR [2,3,4,5,59] [(59,aB (decide ((aj ((ae c.s g.ack).1)) > 0)))] <| kC (decide ((aj ((ae c.s g.ack).1)) > 0)) (fun h7 => ?_) (fun h7 => ?_)
 have h7p := of_decide_eq_true h7
 refine kG <| bf [2,3,4,5] [] 3 ⟨44,[iI c.t.ip,iI c.t.port,iI c.t.my,iI c.state,iI ((ae c.s g.ack).1.una),.string ((ae c.s g.ack).1.data),iI ((ae c.s g.ack).1.sent),.bool ((ae c.s g.ack).1.fin),.bool ((ae c.s g.ack).1.finSent),.bool ((ae c.s g.ack).1.done),iI c.r.next,.string c.r.data,.slice v3a c.r.held.length v3c,iI c.r.fin,.bool c.r.done,iI (bI g.window c.o),iI (max c.most (bI g.window c.o)),iI c.o.mss,iI c.o.scale,.bool c.o.sack,.bool c.o.stamp,iI c.o.val,iI c.o.echo,iI 3,iI 0]⟩ ?_
 exact ⟨⟨(⟨c.t,c.state,(ae c.s g.ack).1,c.r,(bI g.window c.o),max c.most (bI g.window c.o),c.o,3,0⟩),(by unfold bm; first | (simp [*]; done) | grind)⟩,kF 4 0 [2,3,4,5]⟩
 have h7p := of_decide_eq_false h7
 refine kK ?_
 exact ⟨⟨(⟨c.t,c.state,(ae c.s g.ack).1,c.r,(bI g.window c.o),max c.most (bI g.window c.o),c.o,0,0⟩),(by unfold bm; first | (simp [*]; done) | grind)⟩,kF 4 0 [2,3,4,5]⟩
 have h6p := neF h6
 refine kK ?_
 exact ⟨⟨({ c with s := (ae c.s g.ack).1,window := (bI g.window c.o),most := max c.most (bI g.window c.o) }),(by unfold bm; first | (simp [*]; done) | grind)⟩,kF 4 0 [2,3,4,5]⟩
 have h5p := neF h5
 refine dy 1 [2,3,4,5,6,45,46] [(45,aB false),(46,.v (.agg (ai (ae c.s g.ack).1).toArray))] 71 [.agg (ai (ae c.s g.ack).1).toArray] (some 47) rfl (aA fun ww hf => gU ((ae c.s g.ack).1.una) ((ae c.s g.ack).1.data) ((ae c.s g.ack).1.sent) ((ae c.s g.ack).1.fin) ((ae c.s g.ack).1.finSent) ((ae c.s g.ack).1.done) ww ) ?_
 intro _
 refine cA 3 [2,3,4,5,6,50] [(50,aB ((aj ((ae c.s g.ack).1)) == 0))] <| kP 50 ((aj ((ae c.s g.ack).1)) == 0) (fun h8 => ?_) (fun h8 => ?_)
 have h8p := bC h8
 refine aR [2,3,4,5,6,54] [(54,aB (c.state != 7))] <| kC (c.state != 7) (fun h9 => ?_) (fun h9 => ?_)
 have h9p := neT h9
 refine kQ <| bf [2,3,4,5,6] [] 3 ⟨44,a7 { c with s := (ae c.s g.ack).1,window := (bI g.window c.o),most := max c.most (bI g.window c.o),tries := 0 } (cS v3a c v3c)⟩ <| kQ <| bf [2,3,4,5,6] [] 3 ⟨44,[iI c.t.ip,iI c.t.port,iI c.t.my,iI c.state,iI ((ae c.s g.ack).1.una),.string ((ae c.s g.ack).1.data),iI ((ae c.s g.ack).1.sent),.bool ((ae c.s g.ack).1.fin),.bool ((ae c.s g.ack).1.finSent),.bool ((ae c.s g.ack).1.done),iI c.r.next,.string c.r.data,.slice v3a c.r.held.length v3c,iI c.r.fin,.bool c.r.done,iI (bI g.window c.o),iI (max c.most (bI g.window c.o)),iI c.o.mss,iI c.o.scale,.bool c.o.sack,.bool c.o.stamp,iI c.o.val,iI c.o.echo,iI 0,iI 0]⟩ ?_
 refine kQ <| dy 1 [2,3,4,5,57] [(57,.v (.agg (ai (ae c.s g.ack).1).toArray))] 71 [.agg (ai (ae c.s g.ack).1).toArray] (some 58) rfl (aA fun ww hf => gU ((ae c.s g.ack).1.una) ((ae c.s g.ack).1.data) ((ae c.s g.ack).1.sent) ((ae c.s g.ack).1.fin) ((ae c.s g.ack).1.finSent) ((ae c.s g.ack).1.done) ww ) ?_
 intro _
 refine aR [2,3,4,5,59] [(59,aB (decide ((aj ((ae c.s g.ack).1)) > 0)))] <| kC (decide ((aj ((ae c.s g.ack).1)) > 0)) (fun h10 => ?_) (fun h10 => ?_)
 have h10p := of_decide_eq_true h10
 refine kG <| bf [2,3,4,5] [] 3 ⟨44,[iI c.t.ip,iI c.t.port,iI c.t.my,iI c.state,iI ((ae c.s g.ack).1.una),.string ((ae c.s g.ack).1.data),iI ((ae c.s g.ack).1.sent),.bool ((ae c.s g.ack).1.fin),.bool ((ae c.s g.ack).1.finSent),.bool ((ae c.s g.ack).1.done),iI c.r.next,.string c.r.data,.slice v3a c.r.held.length v3c,iI c.r.fin,.bool c.r.done,iI (bI g.window c.o),iI (max c.most (bI g.window c.o)),iI c.o.mss,iI c.o.scale,.bool c.o.sack,.bool c.o.stamp,iI c.o.val,iI c.o.echo,iI 3,iI 0]⟩ ?_
 exact ⟨⟨(⟨c.t,c.state,(ae c.s g.ack).1,c.r,(bI g.window c.o),max c.most (bI g.window c.o),c.o,3,0⟩),(by unfold bm; first | (simp [*]; done) | grind)⟩,kF 4 0 [2,3,4,5]⟩
 have h10p := of_decide_eq_false h10
 refine kK ?_
 exact ⟨⟨(⟨c.t,c.state,(ae c.s g.ack).1,c.r,(bI g.window c.o),max c.most (bI g.window c.o),c.o,0,0⟩),(by unfold bm; first | (simp [*]; done) | grind)⟩,kF 4 0 [2,3,4,5]⟩
 have h9p := neF h9
 refine kK ?_
 exact ⟨⟨({ c with s := (ae c.s g.ack).1,window := (bI g.window c.o),most := max c.most (bI g.window c.o) }),(by unfold bm; first | (simp [*]; done) | grind)⟩,kF 4 0 [2,3,4,5]⟩
 have h8p := bA h8
 refine aR [2,3,4,5,6,54] [(54,aB false)] <| kN <| kK ?_
 exact ⟨⟨({ c with s := (ae c.s g.ack).1,window := (bI g.window c.o),most := max c.most (bI g.window c.o) }),(by unfold bm; first | (simp [*]; done) | grind)⟩,kF 4 0 [2,3,4,5]⟩
 refine kK ?_
 exact ⟨⟨(c),(by unfold bm; first | (simp [*]; done) | grind)⟩,kF 4 0 [2,3,4,5]⟩
 rintro ⟨m,hm5⟩
 try dsimp only
 try dsimp only at hm5
 have hmr : m.r = c.r := by rw [hm5]; exact (heardMid_eq c g).1
 have hm1 : m.r.held.length ≤ 1048576 := by rw [hmr]; exact hkn
 have hm2 : ∀ p ∈ m.r.held,p.text.size ≤ 1048576 := by rw [hmr]; exact hm
 have hm3 : m.r.data.size ≤ 4611686018427387904 := by rw [hmr]; exact hsz
 refine kS <| kQ <| cA 4 [2,3,4,5,64] [(64,aB (c.state == 1))] <| kP 64 (c.state == 1) (fun h11 => ?_) (fun h11 => ?_)
 have h11p := bC h11
 refine aR [2,3,4,5,73] [(73,aB true)] <| kT <| bc [true,true,true,false] (by kernel_rfl) (fun ρ σ => ?_)
 refine ca [0,1,2,3,4,5,6] [80,79,77,75,4,5] 4 [(80,.v (.agg (aG g).toArray)),(79,.v (.string g.body)),(77,aI g.seq),(75,.v (.agg (ah c.r (cS Z c Y)).toArray)),(4,.p 2 0),(5,.p 3 0)] <| kA [7] <| dr 7 44 [.agg (aG g).toArray,iI 1] (some 81) rfl (aA fun ww hf => iHas_c g.src g.dst g.seq g.ack g.flags g.window g.o.mss g.o.scale g.o.sack g.o.stamp g.o.val g.o.echo g.body 1 ww ) ?_
 intro _
 refine kA [8] <| dr 8 72 [.agg (ah c.r (cS Z c Y)).toArray,iI g.seq,.string g.body,.bool (bj g.flags 1)] (some 82) rfl (cZ fun ww hw hf => yiArrived_c c.r (cS Z c Y) g.seq g.body (bj g.flags 1) ww (hf _ m1) (by assumption) (by assumption) (by omega) (by omega) w.heap.size hw) ?_
 rintro ⟨v12a,v12c⟩
 have hz13 := fP (H := 1048576) (T := 1048576) (D := 4611686018427387904) (r := c.r) (seq := g.seq) (t := g.body) (fin := (bj g.flags 1)) (by assumption) (by assumption) (by assumption) (by omega) (by omega) (by omega)
 obtain ⟨hz13a,hz13b,hz13c⟩ := hz13
 refine ca [9] [83,82,4,5] 1 [(83,.p 3 10),(82,.v (.agg (ah (av c.r g.seq g.body (bj g.flags 1)) (.slice v12a ((av c.r g.seq g.body (bj g.flags 1)).held.length) v12c)).toArray)),(4,.p 2 0),(5,.p 3 0)] <| kA [10] <| e8 10 3 10 (ah (av c.r g.seq g.body (bj g.flags 1)) (.slice v12a ((av c.r g.seq g.body (bj g.flags 1)).held.length) v12c)) rfl <| kZ <| kQ <| dy 1 [4,84] [(84,.v (.agg (a7 { m with r := (av c.r g.seq g.body (bj g.flags 1)) } (.slice v12a ((av c.r g.seq g.body (bj g.flags 1)).held.length) v12c)).toArray))] 73 [.agg (a7 { m with r := (av c.r g.seq g.body (bj g.flags 1)) } (.slice v12a ((av c.r g.seq g.body (bj g.flags 1)).held.length) v12c)).toArray] (some 85) rfl (cZ fun ww hw hf => ia ({ m with r := (av c.r g.seq g.body (bj g.flags 1)) }) (.slice v12a ((av c.r g.seq g.body (bj g.flags 1)).held.length) v12c) ww (Own.sl (hf _ m0)) (by assumption) (by assumption) (by omega) w.heap.size hw) ?_
 rintro ⟨v14a,v14c⟩
 have hbd15 : (aE ({ m with r := (av c.r g.seq g.body (bj g.flags 1)) })).r.held.length ≤ 1048576 := ga _  (by omega)
 refine bf [4] [(4,.p 2 0)] 2 ⟨44,a7 (aE ({ m with r := (av c.r g.seq g.body (bj g.flags 1)) })) (.slice v14a ((aE ({ m with r := (av c.r g.seq g.body (bj g.flags 1)) })).r.held.length) v14c)⟩ <| kR ?_
 have hmod : heard c g = (aE ({ m with r := (av c.r g.seq g.body (bj g.flags 1)) })) := by first | (unfold heard; rw [if_pos hv5,← hm5]; unfold cW; rw [if_pos (by assumption)]; done) | (unfold heard; rw [if_pos hv5,← hm5]; unfold cW; rw [if_pos (by unfold ci; simp [*]; done)]; done) | (unfold heard; rw [if_pos hv5,← hm5]; unfold cW; rw [if_neg (by unfold ci; simp; omega),← hmr]; done) | (unfold heard; rw [if_neg hv5]; done)
 exact ⟨[.agg (a7 (aE ({ m with r := (av c.r g.seq g.body (bj g.flags 1)) })) (.slice v14a ((aE ({ m with r := (av c.r g.seq g.body (bj g.flags 1)) })).r.held.length) v14c)).toArray],by kernel_rfl,fun w' hb hf ha => by rw [hmod]; exact im ((v14a,v14c)) rfl rfl (pO (hf _ m0) hB) hb⟩
 have h11p := bA h11
 refine cA 5 [2,3,4,5,69] [(69,aB (c.state == 2))] <| kP 69 (c.state == 2) (fun h16 => ?_) (fun h16 => ?_)
 have h16p := bC h16
 refine aR [2,3,4,5,73] [(73,aB true)] <| kT <| bc [true,true,true,false] (by kernel_rfl) (fun ρ σ => ?_)
 refine ca [0,1,2,3,4,5,6] [80,79,77,75,4,5] 4 [(80,.v (.agg (aG g).toArray)),(79,.v (.string g.body)),(77,aI g.seq),(75,.v (.agg (ah c.r (cS Z c Y)).toArray)),(4,.p 2 0),(5,.p 3 0)] <| kA [7] <| dr 7 44 [.agg (aG g).toArray,iI 1] (some 81) rfl (aA fun ww hf => iHas_c g.src g.dst g.seq g.ack g.flags g.window g.o.mss g.o.scale g.o.sack g.o.stamp g.o.val g.o.echo g.body 1 ww ) ?_
 intro _
 refine kA [8] <| dr 8 72 [.agg (ah c.r (cS Z c Y)).toArray,iI g.seq,.string g.body,.bool (bj g.flags 1)] (some 82) rfl (cZ fun ww hw hf => yiArrived_c c.r (cS Z c Y) g.seq g.body (bj g.flags 1) ww (hf _ m1) (by assumption) (by assumption) (by omega) (by omega) w.heap.size hw) ?_
 rintro ⟨v17a,v17c⟩
 have hz18 := fP (H := 1048576) (T := 1048576) (D := 4611686018427387904) (r := c.r) (seq := g.seq) (t := g.body) (fin := (bj g.flags 1)) (by assumption) (by assumption) (by assumption) (by omega) (by omega) (by omega)
 obtain ⟨hz18a,hz18b,hz18c⟩ := hz18
 refine ca [9] [83,82,4,5] 1 [(83,.p 3 10),(82,.v (.agg (ah (av c.r g.seq g.body (bj g.flags 1)) (.slice v17a ((av c.r g.seq g.body (bj g.flags 1)).held.length) v17c)).toArray)),(4,.p 2 0),(5,.p 3 0)] <| kA [10] <| e8 10 3 10 (ah (av c.r g.seq g.body (bj g.flags 1)) (.slice v17a ((av c.r g.seq g.body (bj g.flags 1)).held.length) v17c)) rfl <| kZ <| kQ <| dy 1 [4,84] [(84,.v (.agg (a7 { m with r := (av c.r g.seq g.body (bj g.flags 1)) } (.slice v17a ((av c.r g.seq g.body (bj g.flags 1)).held.length) v17c)).toArray))] 73 [.agg (a7 { m with r := (av c.r g.seq g.body (bj g.flags 1)) } (.slice v17a ((av c.r g.seq g.body (bj g.flags 1)).held.length) v17c)).toArray] (some 85) rfl (cZ fun ww hw hf => ia ({ m with r := (av c.r g.seq g.body (bj g.flags 1)) }) (.slice v17a ((av c.r g.seq g.body (bj g.flags 1)).held.length) v17c) ww (Own.sl (hf _ m0)) (by assumption) (by assumption) (by omega) w.heap.size hw) ?_
 rintro ⟨v19a,v19c⟩
 have hbd20 : (aE ({ m with r := (av c.r g.seq g.body (bj g.flags 1)) })).r.held.length ≤ 1048576 := ga _  (by omega)
 refine bf [4] [(4,.p 2 0)] 2 ⟨44,a7 (aE ({ m with r := (av c.r g.seq g.body (bj g.flags 1)) })) (.slice v19a ((aE ({ m with r := (av c.r g.seq g.body (bj g.flags 1)) })).r.held.length) v19c)⟩ <| kR ?_
 have hmod : heard c g = (aE ({ m with r := (av c.r g.seq g.body (bj g.flags 1)) })) := by first | (unfold heard; rw [if_pos hv5,← hm5]; unfold cW; rw [if_pos (by assumption)]; done) | (unfold heard; rw [if_pos hv5,← hm5]; unfold cW; rw [if_pos (by unfold ci; simp [*]; done)]; done) | (unfold heard; rw [if_pos hv5,← hm5]; unfold cW; rw [if_neg (by unfold ci; simp; omega),← hmr]; done) | (unfold heard; rw [if_neg hv5]; done)
 exact ⟨[.agg (a7 (aE ({ m with r := (av c.r g.seq g.body (bj g.flags 1)) })) (.slice v19a ((aE ({ m with r := (av c.r g.seq g.body (bj g.flags 1)) })).r.held.length) v19c)).toArray],by kernel_rfl,fun w' hb hf ha => by rw [hmod]; exact im ((v19a,v19c)) rfl rfl (pO (hf _ m0) hB) hb⟩
 have h16p := bA h16
 refine aR [2,3,4,5,73] [(73,aB (c.state == 3))] <| kC (c.state == 3) (fun h21 => ?_) (fun h21 => ?_)
 have h21p := bC h21
 refine bc [true,true,true,false] (by kernel_rfl) (fun ρ σ => ?_)
 refine ca [0,1,2,3,4,5,6] [80,79,77,75,4,5] 4 [(80,.v (.agg (aG g).toArray)),(79,.v (.string g.body)),(77,aI g.seq),(75,.v (.agg (ah c.r (cS Z c Y)).toArray)),(4,.p 2 0),(5,.p 3 0)] <| kA [7] <| dr 7 44 [.agg (aG g).toArray,iI 1] (some 81) rfl (aA fun ww hf => iHas_c g.src g.dst g.seq g.ack g.flags g.window g.o.mss g.o.scale g.o.sack g.o.stamp g.o.val g.o.echo g.body 1 ww ) ?_
 intro _
 refine kA [8] <| dr 8 72 [.agg (ah c.r (cS Z c Y)).toArray,iI g.seq,.string g.body,.bool (bj g.flags 1)] (some 82) rfl (cZ fun ww hw hf => yiArrived_c c.r (cS Z c Y) g.seq g.body (bj g.flags 1) ww (hf _ m1) (by assumption) (by assumption) (by omega) (by omega) w.heap.size hw) ?_
 rintro ⟨v22a,v22c⟩
 have hz23 := fP (H := 1048576) (T := 1048576) (D := 4611686018427387904) (r := c.r) (seq := g.seq) (t := g.body) (fin := (bj g.flags 1)) (by assumption) (by assumption) (by assumption) (by omega) (by omega) (by omega)
 obtain ⟨hz23a,hz23b,hz23c⟩ := hz23
 refine ca [9] [83,82,4,5] 1 [(83,.p 3 10),(82,.v (.agg (ah (av c.r g.seq g.body (bj g.flags 1)) (.slice v22a ((av c.r g.seq g.body (bj g.flags 1)).held.length) v22c)).toArray)),(4,.p 2 0),(5,.p 3 0)] <| kA [10] <| e8 10 3 10 (ah (av c.r g.seq g.body (bj g.flags 1)) (.slice v22a ((av c.r g.seq g.body (bj g.flags 1)).held.length) v22c)) rfl <| kZ <| kQ <| dy 1 [4,84] [(84,.v (.agg (a7 { m with r := (av c.r g.seq g.body (bj g.flags 1)) } (.slice v22a ((av c.r g.seq g.body (bj g.flags 1)).held.length) v22c)).toArray))] 73 [.agg (a7 { m with r := (av c.r g.seq g.body (bj g.flags 1)) } (.slice v22a ((av c.r g.seq g.body (bj g.flags 1)).held.length) v22c)).toArray] (some 85) rfl (cZ fun ww hw hf => ia ({ m with r := (av c.r g.seq g.body (bj g.flags 1)) }) (.slice v22a ((av c.r g.seq g.body (bj g.flags 1)).held.length) v22c) ww (Own.sl (hf _ m0)) (by assumption) (by assumption) (by omega) w.heap.size hw) ?_
 rintro ⟨v24a,v24c⟩
 have hbd25 : (aE ({ m with r := (av c.r g.seq g.body (bj g.flags 1)) })).r.held.length ≤ 1048576 := ga _  (by omega)
 refine bf [4] [(4,.p 2 0)] 2 ⟨44,a7 (aE ({ m with r := (av c.r g.seq g.body (bj g.flags 1)) })) (.slice v24a ((aE ({ m with r := (av c.r g.seq g.body (bj g.flags 1)) })).r.held.length) v24c)⟩ <| kR ?_
 have hmod : heard c g = (aE ({ m with r := (av c.r g.seq g.body (bj g.flags 1)) })) := by first | (unfold heard; rw [if_pos hv5,← hm5]; unfold cW; rw [if_pos (by assumption)]; done) | (unfold heard; rw [if_pos hv5,← hm5]; unfold cW; rw [if_pos (by unfold ci; simp [*]; done)]; done) | (unfold heard; rw [if_pos hv5,← hm5]; unfold cW; rw [if_neg (by unfold ci; simp; omega),← hmr]; done) | (unfold heard; rw [if_neg hv5]; done)
 exact ⟨[.agg (a7 (aE ({ m with r := (av c.r g.seq g.body (bj g.flags 1)) })) (.slice v24a ((aE ({ m with r := (av c.r g.seq g.body (bj g.flags 1)) })).r.held.length) v24c)).toArray],by kernel_rfl,fun w' hb hf ha => by rw [hmod]; exact im ((v24a,v24c)) rfl rfl (pO (hf _ m0) hB) hb⟩
 have h21p := bA h21
 refine kK <| kQ <| dy 1 [4,84] [(84,.v (.agg (a7 m (cS v3a m v3c)).toArray))] 73 [.agg (a7 m (cS v3a m v3c)).toArray] (some 85) rfl (cZ fun ww hw hf => ia m (cS v3a m v3c) ww (Own.sl (hf _ m0)) (by assumption) (by assumption) (by omega) w.heap.size hw) ?_
 rintro ⟨v26a,v26c⟩
 have hbd27 : (aE m).r.held.length ≤ 1048576 := ga _  (by omega)
 refine bf [4] [(4,.p 2 0)] 2 ⟨44,a7 (aE m) (.slice v26a ((aE m).r.held.length) v26c)⟩ <| kR ?_
 have hmod : heard c g = (aE m) := by first | (unfold heard; rw [if_pos hv5,← hm5]; unfold cW; rw [if_pos (by assumption)]; done) | (unfold heard; rw [if_pos hv5,← hm5]; unfold cW; rw [if_pos (by unfold ci; simp [*]; done)]; done) | (unfold heard; rw [if_pos hv5,← hm5]; unfold cW; rw [if_neg (by unfold ci; simp; omega),← hmr]; done) | (unfold heard; rw [if_neg hv5]; done)
 exact ⟨[.agg (a7 (aE m) (.slice v26a ((aE m).r.held.length) v26c)).toArray],by kernel_rfl,fun w' hb hf ha => by rw [hmod]; exact im ((v26a,v26c)) rfl rfl (pO (hf _ m0) hB) hb⟩
theorem yiReceive_c (c : Con) (rV : Value) (g : Seg) (w : World) (hZ : Sl w rV 2 (c.r.held.map pC)) (hkn : c.r.held.length ≤ 1048576)(hgz : g.body.size ≤ 1048576) (hm : ∀ p ∈ c.r.held, p.text.size ≤ 1048576) (hsz : c.r.data.size ≤ 4611686018427387904) (B : Nat) (hB : B ≤ w.heap.size) : Calls Tryz.prog 11 #[.agg (a7 c rV).toArray, .agg (aG g).toArray] w fun e w' => XRs w w' e (α := (Option Addr × Nat) × (Option Addr × Nat)) (fun y => .tuple #[.agg (a7 (a8 c g).1 (.slice y.1.1 ((a8 c g).1.r.held.length) y.1.2)).toArray, .slice y.2.1 ((a8 c g).2.1.length) y.2.2, iI ((a8 c g).2.2)]) (fun y => [aF B (.slice y.1.1 ((a8 c g).1.r.held.length) y.1.2) 2 ((a8 c g).1.r.held.map pC), aF B (.slice y.2.1 ((a8 c g).2.1.length) y.2.2) 13 ((a8 c g).2.1.map ak)]) := by
 obtain ⟨Z,Y,hY⟩ := hZ.form
 rw [List.length_map] at hY; subst hY
 have hJ := hZ.len; rw [List.length_map] at hJ
 have hqcrh := Sl.capLe hZ
 refine ck (args := [.agg (a7 c (cS Z c Y)).toArray,.agg (aG g).toArray]) (fn := Tryz.f11) [cH Z c Y] Tryz.func11 rfl Tryz.ntmps11 rfl (by simp only [List.mem_cons,List.not_mem_nil,or_false,forall_eq_or_imp,forall_eq]; exact ⟨rfl,hZ⟩) ?_
 refine kQ <| c8 [2,3,4] ⟨[(2,.p 0 0),(3,.p 1 0),(4,.p 2 0)],[⟨44,a7 c (cS Z c Y)⟩,⟨50,aG g⟩,⟨44,bN⟩],[],[cH Z c Y]⟩ <| kQ <| dy 2 [2,3,4,11,12] [(11,.v (.agg (a7 c (cS Z c Y)).toArray)),(12,.v (.agg (aG g).toArray))] 42 [.agg (a7 c (cS Z c Y)).toArray,.agg (aG g).toArray] (some 13) rfl (aA fun ww hf => yiVerdict_c c (cS Z c Y) g ww (hf _ m0) (by omega) (by assumption) (by omega)) ?_
 intro _
 refine aR [2,3,4,7] [(7,aI (a9 c g))] <| kQ <| dy 1 [2,3,4,7,14] [(14,.v (.agg (a7 c (cS Z c Y)).toArray))] 43 [.agg (a7 c (cS Z c Y)).toArray] (some 15) rfl (cZ fun ww hw hf => eO c (cS Z c Y) ww (hf _ m0) (by assumption) w.heap.size hw) ?_
 rintro ⟨v1a,v1c⟩
 refine i5 [2,3,4,7,8] [(8,.p 3 0)] [⟨44,a7 c (cS v1a c v1c)⟩] <| kS <| kQ <| aR [2,3,4,7,8,16] [(16,aI (a9 c g))] ?_
 refine aZ <| kQ <| aR [2,3,4,7,8,16,17] [(17,aB ((a9 c g) == 2))] <| kC ((a9 c g) == 2) (fun h2 => ?_) (fun h2 => ?_)
 have h2p := bC h2
 refine kQ <| bf [4,7,8] [] 3 ⟨44,a7 { c with state := 8,timer := 0,tries := 0 } (cS v1a c v1c)⟩ <| kQ <| bf [4,5,6] [(5,.v (.slice none 0 0)),(6,aI (a9 c g))] 2 ⟨44,a7 { c with state := 8,timer := 0,tries := 0 } (cS v1a c v1c)⟩ ?_
 refine kR ?_
 have hmod : a8 c g = (({ c with state := 8,timer := 0,tries := 0 }),[],(a9 c g)) := by first | exact cN (by assumption) (by assumption) (by assumption) (by assumption) | exact dx hv5 (by assumption) hpn (by assumption) | (simp [a8,br,bZ, *]; done) | grind [a8,br,bZ]
 exact ⟨[.agg (a7 { c with state := 8,timer := 0,tries := 0 } (cS v1a c v1c)).toArray,.slice none 0 0,iI (a9 c g)],by kernel_rfl,fun w' hb hf ha => by rw [hmod]; exact gu ((v1a,v1c),(none,0)) rfl rfl (pO (hf _ m0) hB) ⟨.inl ⟨rfl,_,rfl⟩,fun b hb => (hb.1 rfl).elim⟩ (ef rfl) hb⟩
 have h2p := bA h2
 refine kS <| kQ <| aR [2,3,4,7,8,16,24] [(24,aB ((a9 c g) == 3))] <| kC ((a9 c g) == 3) (fun h3 => ?_) (fun h3 => ?_)
 have h3p := bC h3
 refine kK <| kC ((a9 c g) == 3) (fun h4 => ?_) (fun h4 => ?_)
 have h4p := bC h4
 refine kS <| cf (α := {zz : Int // (fun (tm : Int) => tm = if a9 c g = 4 ∧ c.state = 7 ∧ bj g.flags 1 = true then 4 else c.timer) zz}) (fun zz => (fun (tm : Int) => (⟨[(2,.p 0 0),(4,.p 2 0),(7,aI (a9 c g)),(8,.p 3 0)],[⟨44,a7 c (cS Z c Y)⟩,⟨50,aG g⟩,⟨44,bN⟩,⟨44,a7 { c with timer := tm } (cS v1a c v1c)⟩],[],[aF w.heap.size (cS v1a c v1c) 2 (c.r.held.map pC),cH Z c Y]⟩ : St)) zz.1) ?_ ?_
 refine kQ <| cA 3 [2,3,4,7,8,29] [(29,aB ((a9 c g) == 4))] <| kP 29 ((a9 c g) == 4) (fun h5 => ?_) (fun h5 => ?_)
 have h5p := bC h5
 exfalso; omega
 have h5p := bA h5
 refine aR [2,4,7,8,37] [(37,aB false)] <| kN <| kK ?_
 exact ⟨⟨(c.timer),(by first | (rw [if_neg (by rintro ⟨q1,q2,q3⟩; omega)]; done) | (rw [if_neg (by rintro ⟨q1,q2,q3⟩; simp_all; done)]; done) | (rw [if_pos ⟨by omega,by omega,by assumption⟩]; done))⟩,kF 4 0 [2,4,7,8]⟩
 rintro ⟨tm,htm⟩
 try dsimp only
 try dsimp only at htm
 refine kS <| fY (α := Nat) (fun y => (fun (g7 : Nat) => (⟨[(4,.p 2 0),(5,.v (.slice (some ⟨g7,0,none⟩) 1 1)),(6,aI (a9 c g))],[⟨44,a7 c (cS Z c Y)⟩,⟨50,aG g⟩,⟨44,a7 { c with timer := tm } (cS v1a c v1c)⟩,⟨44,a7 { c with timer := tm } (cS v1a c v1c)⟩],[],[ap w.heap.size 50 13 (.slice (some ⟨g7,0,none⟩) 1 1) (([⟨c.t.my,c.t.port,ay c.s,c.r.next,16,wO c.r,⟨0,(-1),false,false,0,0⟩,(⟨#[]⟩ : ByteArray)⟩] : List Seg).map ak),aF w.heap.size (cS v1a c v1c) 2 (c.r.held.map pC),cH Z c Y]⟩ : St)) y) ?_ ?_
 refine bc [true,true,false,true] (by kernel_rfl) (fun ρ σ => ?_)
 refine ca [0,1,4] [43,40,39,4] 5 [(43,aI (a9 c g)),(40,.v (.agg (a7 c (cS Z c Y)).toArray)),(39,.v (.agg (a7 { c with timer := tm } (cS v1a c v1c)).toArray)),(4,.p 2 0)] <| kA [2] <| dr 2 45 [.agg (a7 c (cS Z c Y)).toArray] (some 41) rfl (aA fun ww hf => iw c (cS Z c Y) ww (hf _ m1) (by first | omega | (dsimp only; omega))) ?_
 intro _
 refine kA [3,5] ⟨?_,?_⟩
 refine gj 3 rfl (ax (ax (bz rfl (ax ar)))) (bi (e := 50) (K := 13) (bytes := 104) [.agg #[iI c.t.my,iI c.t.port,iI (ay c.s),iI c.r.next,iI 16,iI (wO c.r),iI 0,iI (-1),.bool false,.bool false,iI 0,iI 0,.string (⟨#[]⟩ : ByteArray)]] (rs := ([⟨c.t.my,c.t.port,ay c.s,c.r.next,16,wO c.r,⟨0,(-1),false,false,0,0⟩,(⟨#[]⟩ : ByteArray)⟩] : List Seg).map ak) rfl rfl) ?_
 intro g7
 refine kA [5] <| e8 5 2 0 (a7 { c with timer := tm } (cS v1a c v1c)) rfl <| ca [6,7] [6,5,4] 0 [(6,aI (a9 c g)),(5,.v (.slice (some ⟨g7,0,none⟩) 1 1)),(4,.p 2 0)] <| kZ ?_
 exact ⟨(g7),kF 4 0 [4,5,6]⟩
 refine e8 5 2 0 (a7 { c with timer := tm } (cS v1a c v1c)) rfl <| kA [3] <| gj 3 rfl (ax (ax (bz rfl (ax ar)))) (bi (e := 50) (K := 13) (bytes := 104) [.agg #[iI c.t.my,iI c.t.port,iI (ay c.s),iI c.r.next,iI 16,iI (wO c.r),iI 0,iI (-1),.bool false,.bool false,iI 0,iI 0,.string (⟨#[]⟩ : ByteArray)]] (rs := ([⟨c.t.my,c.t.port,ay c.s,c.r.next,16,wO c.r,⟨0,(-1),false,false,0,0⟩,(⟨#[]⟩ : ByteArray)⟩] : List Seg).map ak) rfl rfl) ?_
 intro g9
 refine ca [6,7] [6,5,4] 0 [(6,aI (a9 c g)),(5,.v (.slice (some ⟨g9,0,none⟩) 1 1)),(4,.p 2 0)] <| kZ ?_
 exact ⟨(g9),kF 4 0 [4,5,6]⟩
 intro g7
 refine kR ?_
 have hmod : a8 c g = (({ c with timer := tm }),([⟨c.t.my,c.t.port,ay c.s,c.r.next,16,wO c.r,⟨0,(-1),false,false,0,0⟩,(⟨#[]⟩ : ByteArray)⟩] : List Seg),(a9 c g)) := by first | (have hv4 : a9 c g = 4 := (by assumption); exact (gp hv4 htm).trans (by rw [hv4]; first | done | rfl)) | (have hv3 : a9 c g = 3 := (by assumption); exact (fM hv3 htm).trans (by rw [hv3]; first | done | rfl))
 exact ⟨[.agg (a7 { c with timer := tm } (cS v1a c v1c)).toArray,.slice (some ⟨g7,0,none⟩) 1 1,iI (a9 c g)],by kernel_rfl,fun w' hb hf ha => by rw [hmod]; exact gu ((v1a,v1c),(((some ⟨g7,0,none⟩) : Option Addr),1)) rfl rfl (pO (hf _ m1) hB) (pR (hf _ m0) hB) (Apart.sub2 ha (i := 1) (j := 0) rfl rfl (by decide) rfl (fun b h => h) (fun b h => bX h)) hb⟩
 have h4p := bA h4
 refine kQ <| aR [2,3,4,7,8,44] [(44,aB ((a9 c g) == 5))] <| kC ((a9 c g) == 5) (fun h10 => ?_) (fun h10 => ?_)
 have h10p := bC h10
 refine kQ <| dy 2 [3,4,7,8,46,47] [(46,.v (.agg (a7 c (cS Z c Y)).toArray)),(47,.v (.agg (aG g).toArray))] 27 [.agg (a7 c (cS Z c Y)).toArray,.agg (aG g).toArray] (some 48) rfl (cZ fun ww hw hf => yiHeard_c c (cS Z c Y) g ww (hf _ m1) (by assumption) (by omega) (by assumption) (by omega) w.heap.size hw) ?_
 rintro ⟨v11a,v11c⟩
 have hv5 : a9 c g = 5 := by have := eQ c g; omega
 have hhw := heard_w hv5
 have hz12 := heard_sz (H := 1048576) (T := 1048576) (D := 4611686018427387904) (c := c) (g := g) (by assumption) (by assumption) (by assumption) (by omega) (by omega) (by omega)
 obtain ⟨hz12a,hz12b,hz12c⟩ := hz12
 refine bf [3,4,7,8] [] 3 ⟨44,a7 (heard c g) (.slice v11a ((heard c g).r.held.length) v11c)⟩ <| kS <| kQ <| aJ [3,4,7,8,51] [(3,.p 1 0),(4,.p 2 0),(7,aI (a9 c g)),(8,.p 3 0),(51,aB (((heard c g).state) == 8))] ?_
 refine kC (((heard c g).state) == 8) (fun h13 => ?_) (fun h13 => ?_)
 have h13p := bC h13
 refine kQ <| bf [4,5,6] [(5,.v (.slice none 0 0)),(6,aI (a9 c g))] 2 ⟨44,a7 (heard c g) (.slice v11a ((heard c g).r.held.length) v11c)⟩ <| kR ?_
 have hmod : a8 c g = ((heard c g),[],(a9 c g)) := by first | exact cN (by assumption) (by assumption) (by assumption) (by assumption) | exact dx hv5 (by assumption) hpn (by assumption) | (simp [a8,br,bZ, *]; done) | grind [a8,br,bZ]
 exact ⟨[.agg (a7 (heard c g) (.slice v11a ((heard c g).r.held.length) v11c)).toArray,.slice none 0 0,iI (a9 c g)],by kernel_rfl,fun w' hb hf ha => by rw [hmod]; exact gu ((v11a,v11c),(none,0)) rfl rfl (pO (hf _ m0) hB) ⟨.inl ⟨rfl,_,rfl⟩,fun b hb => (hb.1 rfl).elim⟩ (ef rfl) hb⟩
 have h13p := bA h13
 refine kK <| kQ <| dy 3 [3,4,7,55,57] [(55,.v (.agg (a7 (heard c g) (.slice v11a ((heard c g).r.held.length) v11c)).toArray)),(57,aI ((heard c g).window))] 46 [.agg (a7 (heard c g) (.slice v11a ((heard c g).r.held.length) v11c)).toArray,iI ((heard c g).window)] (some 58) rfl (cZ fun ww hw hf => yiPump_c (heard c g) (.slice v11a ((heard c g).r.held.length) v11c) ((heard c g).window) ww (Own.sl (hf _ m0)) (by assumption) (by assumption) (by omega) (by omega) w.heap.size hw) ?_
 rintro ⟨⟨v14a,v14c⟩,⟨v15a,v15c⟩⟩
 have hbd16 : (pump (heard c g) ((heard c g).window)).1.r.held.length ≤ 1048576 ∧ (pump (heard c g) ((heard c g).window)).2.length ≤ 49 := eC _ _  (by omega)
 have hbd16a := hbd16.1; have hbd16b := hbd16.2
 refine i5 [3,4,7,9,10] [(9,.p 4 0),(10,.v (.slice v15a ((pump (heard c g) ((heard c g).window)).2.length) v15c))] [⟨44,a7 (pump (heard c g) ((heard c g).window)).1 (.slice v14a ((pump (heard c g) ((heard c g).window)).1.r.held.length) v14c)⟩] <| kS <| kQ <| cA 4 [3,4,7,9,10,64] [(64,aB ((((pump (heard c g) ((heard c g).window)).2.length : Nat) : Int) == 0))] ?_
 refine kP 64 ((((pump (heard c g) ((heard c g).window)).2.length : Nat) : Int) == 0) (fun h17 => ?_) (fun h17 => ?_)
 have h17p := bC h17
 have hnil : (pump (heard c g) (heard c g).window).2 = [] := List.length_eq_zero_iff.1 (by have := h17; simp at this; first | omega | simp_all)
 have hpn := pump_none hnil
 have hpz : (pump (heard c g) (heard c g).window).1.r.data.size ≤ 4611686018427387904 := by rw [pump_rr]; omega
 refine dy 1 [4,7,9,10,64,65] [(64,aB true),(65,.v (.agg (aG g).toArray))] 47 [.agg (aG g).toArray] (some 66) rfl (aA fun ww hf => i6 g.src g.dst g.seq g.ack g.flags g.window g.o.mss g.o.scale g.o.sack g.o.stamp g.o.val g.o.echo g.body ww (by omega)) ?_
 intro _
 refine aR [4,7,9,10,68] [(68,aB ((bQ g) != 0))] <| kC ((bQ g) != 0) (fun h18 => ?_) (fun h18 => ?_)
 have h18p := neT h18
 refine kG <| dy 1 [4,7,9,10,69] [(69,.v (.agg (a7 (pump (heard c g) ((heard c g).window)).1 (.slice v14a ((pump (heard c g) ((heard c g).window)).1.r.held.length) v14c)).toArray))] 45 [.agg (a7 (pump (heard c g) ((heard c g).window)).1 (.slice v14a ((pump (heard c g) ((heard c g).window)).1.r.held.length) v14c)).toArray] (some 70) rfl (aA fun ww hf => iw ((pump (heard c g) ((heard c g).window)).1) (.slice v14a ((pump (heard c g) ((heard c g).window)).1.r.held.length) v14c) ww (Own.sl (hf _ m0)) (by first | omega | (dsimp only; omega))) ?_
 intro _
 refine kHD 0 [4,7,9,10,70] [] rfl (bi (e := 50) (K := 13) (bytes := 104) [.agg #[iI ((pump (heard c g) ((heard c g).window)).1.t.my),iI ((pump (heard c g) ((heard c g).window)).1.t.port),iI (ay ((pump (heard c g) ((heard c g).window)).1.s)),iI ((pump (heard c g) ((heard c g).window)).1.r.next),iI 16,iI (wO ((pump (heard c g) ((heard c g).window)).1.r)),iI 0,iI (-1),.bool false,.bool false,iI 0,iI 0,.string (⟨#[]⟩ : ByteArray)]] (rs := ([⟨(pump (heard c g) ((heard c g).window)).1.t.my,(pump (heard c g) ((heard c g).window)).1.t.port,ay ((pump (heard c g) ((heard c g).window)).1.s),(pump (heard c g) ((heard c g).window)).1.r.next,16,wO ((pump (heard c g) ((heard c g).window)).1.r),⟨0,(-1),false,false,0,0⟩,(⟨#[]⟩ : ByteArray)⟩] : List Seg).map ak) rfl rfl) ?_
 intro g19
 refine aR [4,7,9,10] [(10,.v (.slice (some ⟨g19,0,none⟩) 1 1))] <| kQ <| bf [4,5,6] [(5,.v (.slice (some ⟨g19,0,none⟩) 1 1)),(6,aI (a9 c g))] 2 ⟨44,a7 (pump (heard c g) ((heard c g).window)).1 (.slice v14a ((pump (heard c g) ((heard c g).window)).1.r.held.length) v14c)⟩ <| kR ?_
 have hmod : a8 c g = (((pump (heard c g) ((heard c g).window)).1),([⟨(pump (heard c g) ((heard c g).window)).1.t.my,(pump (heard c g) ((heard c g).window)).1.t.port,ay ((pump (heard c g) ((heard c g).window)).1.s),(pump (heard c g) ((heard c g).window)).1.r.next,16,wO ((pump (heard c g) ((heard c g).window)).1.r),⟨0,(-1),false,false,0,0⟩,(⟨#[]⟩ : ByteArray)⟩] : List Seg),(a9 c g)) := by first | exact cN (by assumption) (by assumption) (by assumption) (by assumption) | exact dx hv5 (by assumption) hpn (by assumption) | (simp [a8,br,bZ, *]; done) | grind [a8,br,bZ]
 exact ⟨[.agg (a7 (pump (heard c g) ((heard c g).window)).1 (.slice v14a ((pump (heard c g) ((heard c g).window)).1.r.held.length) v14c)).toArray,.slice (some ⟨g19,0,none⟩) 1 1,iI (a9 c g)],by kernel_rfl,fun w' hb hf ha => by rw [hmod]; exact gu ((v14a,v14c),(((some ⟨g19,0,none⟩) : Option Addr),1)) rfl rfl (pO (hf _ m1) hB) (pR (hf _ m0) hB) (Apart.sub2 ha (i := 1) (j := 0) rfl rfl (by decide) rfl (fun b h => h) (fun b h => bX h)) hb⟩
 have h18p := neF h18
 refine kK <| kQ <| bf [4,5,6] [(5,.v (.slice v15a ((pump (heard c g) ((heard c g).window)).2.length) v15c)),(6,aI (a9 c g))] 2 ⟨44,a7 (pump (heard c g) ((heard c g).window)).1 (.slice v14a ((pump (heard c g) ((heard c g).window)).1.r.held.length) v14c)⟩ <| kR ?_
 have hmod : a8 c g = (((pump (heard c g) ((heard c g).window)).1),((pump (heard c g) ((heard c g).window)).2),(a9 c g)) := by first | exact cN (by assumption) (by assumption) (by assumption) (by assumption) | exact dx hv5 (by assumption) hpn (by assumption) | (simp [a8,br,bZ, *]; done) | grind [a8,br,bZ]
 exact ⟨[.agg (a7 (pump (heard c g) ((heard c g).window)).1 (.slice v14a ((pump (heard c g) ((heard c g).window)).1.r.held.length) v14c)).toArray,.slice v15a ((pump (heard c g) ((heard c g).window)).2.length) v15c,iI (a9 c g)],by kernel_rfl,fun w' hb hf ha => by rw [hmod]; exact gu ((v14a,v14c),(v15a,v15c)) rfl rfl (pO (hf _ m0) hB) (pO (hf _ m1) hB) (Apart.sub2 ha (i := 0) (j := 1) rfl rfl (by decide) rfl (fun b h => h) (fun b h => h)) hb⟩
 have h17p := bA h17
 refine aR [4,7,9,10,68] [(68,aB false)] <| kN <| kK <| kQ <| bf [4,5,6] [(5,.v (.slice v15a ((pump (heard c g) ((heard c g).window)).2.length) v15c)),(6,aI (a9 c g))] 2 ⟨44,a7 (pump (heard c g) ((heard c g).window)).1 (.slice v14a ((pump (heard c g) ((heard c g).window)).1.r.held.length) v14c)⟩ ?_
 refine kR ?_
 have hmod : a8 c g = (((pump (heard c g) ((heard c g).window)).1),((pump (heard c g) ((heard c g).window)).2),(a9 c g)) := by first | exact cN (by assumption) (by assumption) (by assumption) (by assumption) | exact dx hv5 (by assumption) hpn (by assumption) | (simp [a8,br,bZ, *]; done) | grind [a8,br,bZ]
 exact ⟨[.agg (a7 (pump (heard c g) ((heard c g).window)).1 (.slice v14a ((pump (heard c g) ((heard c g).window)).1.r.held.length) v14c)).toArray,.slice v15a ((pump (heard c g) ((heard c g).window)).2.length) v15c,iI (a9 c g)],by kernel_rfl,fun w' hb hf ha => by rw [hmod]; exact gu ((v14a,v14c),(v15a,v15c)) rfl rfl (pO (hf _ m0) hB) (pO (hf _ m1) hB) (Apart.sub2 ha (i := 0) (j := 1) rfl rfl (by decide) rfl (fun b h => h) (fun b h => h)) hb⟩
 have h10p := bA h10
 refine kK <| kQ <| bf [4,5,6] [(5,.v (.slice none 0 0)),(6,aI (a9 c g))] 2 ⟨44,a7 c (cS v1a c v1c)⟩ <| kR ?_
 have hmod : a8 c g = (c,[],(a9 c g)) := by first | exact cN (by assumption) (by assumption) (by assumption) (by assumption) | exact dx hv5 (by assumption) hpn (by assumption) | (simp [a8,br,bZ, *]; done) | grind [a8,br,bZ]
 exact ⟨[.agg (a7 c (cS v1a c v1c)).toArray,.slice none 0 0,iI (a9 c g)],by kernel_rfl,fun w' hb hf ha => by rw [hmod]; exact gu ((v1a,v1c),(none,0)) rfl rfl (pO (hf _ m0) hB) ⟨.inl ⟨rfl,_,rfl⟩,fun b hb => (hb.1 rfl).elim⟩ (ef rfl) hb⟩
 have h3p := bA h3
 refine kG <| aR [2,3,4,7,8,16,24] [(24,aB ((a9 c g) == 4))] <| kC ((a9 c g) == 4) (fun h20 => ?_) (fun h20 => ?_)
 have h20p := bC h20
 refine kS <| cf (α := {zz : Int // (fun (tm : Int) => tm = if a9 c g = 4 ∧ c.state = 7 ∧ bj g.flags 1 = true then 4 else c.timer) zz}) (fun zz => (fun (tm : Int) => (⟨[(2,.p 0 0),(4,.p 2 0),(7,aI (a9 c g)),(8,.p 3 0)],[⟨44,a7 c (cS Z c Y)⟩,⟨50,aG g⟩,⟨44,bN⟩,⟨44,a7 { c with timer := tm } (cS v1a c v1c)⟩],[],[aF w.heap.size (cS v1a c v1c) 2 (c.r.held.map pC),cH Z c Y]⟩ : St)) zz.1) ?_ ?_
 refine kQ <| cA 3 [2,3,4,7,8,29] [(29,aB ((a9 c g) == 4))] <| kP 29 ((a9 c g) == 4) (fun h21 => ?_) (fun h21 => ?_)
 have h21p := bC h21
 refine cA 5 [2,3,4,7,8,34] [(34,aB (c.state == 7))] <| kP 34 (c.state == 7) (fun h22 => ?_) (fun h22 => ?_)
 have h22p := bC h22
 refine dh 1 [2,4,7,8,34,35] [(2,.p 0 0),(4,.p 2 0),(7,aI (a9 c g)),(8,.p 3 0),(34,aB true),(35,.v (.agg (aG g).toArray))] 44 [.agg (aG g).toArray,iI 1] (some 36) rfl (aA fun ww hf => iHas_c g.src g.dst g.seq g.ack g.flags g.window g.o.mss g.o.scale g.o.sack g.o.stamp g.o.val g.o.echo g.body 1 ww ) ?_
 intro _
 refine aR [2,4,7,8,37] [(37,aB (bj g.flags 1))] <| kC (bj g.flags 1) (fun h23 => ?_) (fun h23 => ?_)
 refine kG <| bf [2,4,7,8] [] 3 ⟨44,a7 { c with timer := 4 } (cS v1a c v1c)⟩ ?_
 exact ⟨⟨(4),(by first | (rw [if_neg (by rintro ⟨q1,q2,q3⟩; omega)]; done) | (rw [if_neg (by rintro ⟨q1,q2,q3⟩; simp_all; done)]; done) | (rw [if_pos ⟨by omega,by omega,by assumption⟩]; done))⟩,kF 4 0 [2,4,7,8]⟩
 refine kK ?_
 exact ⟨⟨(c.timer),(by first | (rw [if_neg (by rintro ⟨q1,q2,q3⟩; omega)]; done) | (rw [if_neg (by rintro ⟨q1,q2,q3⟩; simp_all; done)]; done) | (rw [if_pos ⟨by omega,by omega,by assumption⟩]; done))⟩,kF 4 0 [2,4,7,8]⟩
 have h22p := bA h22
 refine aJ [2,4,7,8,37] [(2,.p 0 0),(4,.p 2 0),(7,aI (a9 c g)),(8,.p 3 0),(37,aB false)] <| kN <| kK ?_
 exact ⟨⟨(c.timer),(by first | (rw [if_neg (by rintro ⟨q1,q2,q3⟩; omega)]; done) | (rw [if_neg (by rintro ⟨q1,q2,q3⟩; simp_all; done)]; done) | (rw [if_pos ⟨by omega,by omega,by assumption⟩]; done))⟩,kF 4 0 [2,4,7,8]⟩
 have h21p := bA h21
 refine aR [2,4,7,8,37] [(37,aB false)] <| kN <| kK ?_
 exact ⟨⟨(c.timer),(by first | (rw [if_neg (by rintro ⟨q1,q2,q3⟩; omega)]; done) | (rw [if_neg (by rintro ⟨q1,q2,q3⟩; simp_all; done)]; done) | (rw [if_pos ⟨by omega,by omega,by assumption⟩]; done))⟩,kF 4 0 [2,4,7,8]⟩
 rintro ⟨tm,htm⟩
 try dsimp only
 try dsimp only at htm
 refine kS <| fY (α := Nat) (fun y => (fun (g25 : Nat) => (⟨[(4,.p 2 0),(5,.v (.slice (some ⟨g25,0,none⟩) 1 1)),(6,aI (a9 c g))],[⟨44,a7 c (cS Z c Y)⟩,⟨50,aG g⟩,⟨44,a7 { c with timer := tm } (cS v1a c v1c)⟩,⟨44,a7 { c with timer := tm } (cS v1a c v1c)⟩],[],[ap w.heap.size 50 13 (.slice (some ⟨g25,0,none⟩) 1 1) (([⟨c.t.my,c.t.port,ay c.s,c.r.next,16,wO c.r,⟨0,(-1),false,false,0,0⟩,(⟨#[]⟩ : ByteArray)⟩] : List Seg).map ak),aF w.heap.size (cS v1a c v1c) 2 (c.r.held.map pC),cH Z c Y]⟩ : St)) y) ?_ ?_
 refine bc [true,true,false,true] (by kernel_rfl) (fun ρ σ => ?_)
 refine ca [0,1,4] [43,40,39,4] 5 [(43,aI (a9 c g)),(40,.v (.agg (a7 c (cS Z c Y)).toArray)),(39,.v (.agg (a7 { c with timer := tm } (cS v1a c v1c)).toArray)),(4,.p 2 0)] <| kA [2] <| dr 2 45 [.agg (a7 c (cS Z c Y)).toArray] (some 41) rfl (aA fun ww hf => iw c (cS Z c Y) ww (hf _ m1) (by first | omega | (dsimp only; omega))) ?_
 intro _
 refine kA [3,5] ⟨?_,?_⟩
 refine gj 3 rfl (ax (ax (bz rfl (ax ar)))) (bi (e := 50) (K := 13) (bytes := 104) [.agg #[iI c.t.my,iI c.t.port,iI (ay c.s),iI c.r.next,iI 16,iI (wO c.r),iI 0,iI (-1),.bool false,.bool false,iI 0,iI 0,.string (⟨#[]⟩ : ByteArray)]] (rs := ([⟨c.t.my,c.t.port,ay c.s,c.r.next,16,wO c.r,⟨0,(-1),false,false,0,0⟩,(⟨#[]⟩ : ByteArray)⟩] : List Seg).map ak) rfl rfl) ?_
 intro g25
 refine kA [5] <| e8 5 2 0 (a7 { c with timer := tm } (cS v1a c v1c)) rfl <| ca [6,7] [6,5,4] 0 [(6,aI (a9 c g)),(5,.v (.slice (some ⟨g25,0,none⟩) 1 1)),(4,.p 2 0)] <| kZ ?_
 exact ⟨(g25),kF 4 0 [4,5,6]⟩
 refine e8 5 2 0 (a7 { c with timer := tm } (cS v1a c v1c)) rfl <| kA [3] <| gj 3 rfl (ax (ax (bz rfl (ax ar)))) (bi (e := 50) (K := 13) (bytes := 104) [.agg #[iI c.t.my,iI c.t.port,iI (ay c.s),iI c.r.next,iI 16,iI (wO c.r),iI 0,iI (-1),.bool false,.bool false,iI 0,iI 0,.string (⟨#[]⟩ : ByteArray)]] (rs := ([⟨c.t.my,c.t.port,ay c.s,c.r.next,16,wO c.r,⟨0,(-1),false,false,0,0⟩,(⟨#[]⟩ : ByteArray)⟩] : List Seg).map ak) rfl rfl) ?_
 intro g27
 refine ca [6,7] [6,5,4] 0 [(6,aI (a9 c g)),(5,.v (.slice (some ⟨g27,0,none⟩) 1 1)),(4,.p 2 0)] <| kZ ?_
 exact ⟨(g27),kF 4 0 [4,5,6]⟩
 intro g25
 refine kR ?_
 have hmod : a8 c g = (({ c with timer := tm }),([⟨c.t.my,c.t.port,ay c.s,c.r.next,16,wO c.r,⟨0,(-1),false,false,0,0⟩,(⟨#[]⟩ : ByteArray)⟩] : List Seg),(a9 c g)) := by first | (have hv4 : a9 c g = 4 := (by assumption); exact (gp hv4 htm).trans (by rw [hv4]; first | done | rfl)) | (have hv3 : a9 c g = 3 := (by assumption); exact (fM hv3 htm).trans (by rw [hv3]; first | done | rfl))
 exact ⟨[.agg (a7 { c with timer := tm } (cS v1a c v1c)).toArray,.slice (some ⟨g25,0,none⟩) 1 1,iI (a9 c g)],by kernel_rfl,fun w' hb hf ha => by rw [hmod]; exact gu ((v1a,v1c),(((some ⟨g25,0,none⟩) : Option Addr),1)) rfl rfl (pO (hf _ m1) hB) (pR (hf _ m0) hB) (Apart.sub2 ha (i := 1) (j := 0) rfl rfl (by decide) rfl (fun b h => h) (fun b h => bX h)) hb⟩
 have h20p := bA h20
 refine kQ <| aR [2,3,4,7,8,44] [(44,aB ((a9 c g) == 5))] <| kC ((a9 c g) == 5) (fun h28 => ?_) (fun h28 => ?_)
 have h28p := bC h28
 refine kQ <| dy 2 [3,4,7,8,46,47] [(46,.v (.agg (a7 c (cS Z c Y)).toArray)),(47,.v (.agg (aG g).toArray))] 27 [.agg (a7 c (cS Z c Y)).toArray,.agg (aG g).toArray] (some 48) rfl (cZ fun ww hw hf => yiHeard_c c (cS Z c Y) g ww (hf _ m1) (by assumption) (by omega) (by assumption) (by omega) w.heap.size hw) ?_
 rintro ⟨v29a,v29c⟩
 have hv5 : a9 c g = 5 := by have := eQ c g; omega
 have hhw := heard_w hv5
 have hz30 := heard_sz (H := 1048576) (T := 1048576) (D := 4611686018427387904) (c := c) (g := g) (by assumption) (by assumption) (by assumption) (by omega) (by omega) (by omega)
 obtain ⟨hz30a,hz30b,hz30c⟩ := hz30
 refine c8 [3,4,7,8] ⟨[(3,.p 1 0),(4,.p 2 0),(7,aI (a9 c g)),(8,.p 3 0)],[⟨44,a7 c (cS Z c Y)⟩,⟨50,aG g⟩,⟨44,bN⟩,⟨44,a7 (heard c g) (.slice v29a ((heard c g).r.held.length) v29c)⟩],[],[aF w.heap.size (.slice v29a ((heard c g).r.held.length) v29c) 2 ((heard c g).r.held.map pC),aF w.heap.size (cS v1a c v1c) 2 (c.r.held.map pC),cH Z c Y]⟩ <| kS <| kQ <| aR [3,4,7,8,51] [(51,aB (((heard c g).state) == 8))] ?_
 refine kC (((heard c g).state) == 8) (fun h31 => ?_) (fun h31 => ?_)
 have h31p := bC h31
 refine kQ <| bf [4,5,6] [(5,.v (.slice none 0 0)),(6,aI (a9 c g))] 2 ⟨44,a7 (heard c g) (.slice v29a ((heard c g).r.held.length) v29c)⟩ <| kR ?_
 have hmod : a8 c g = ((heard c g),[],(a9 c g)) := by first | exact cN (by assumption) (by assumption) (by assumption) (by assumption) | exact dx hv5 (by assumption) hpn (by assumption) | (simp [a8,br,bZ, *]; done) | grind [a8,br,bZ]
 exact ⟨[.agg (a7 (heard c g) (.slice v29a ((heard c g).r.held.length) v29c)).toArray,.slice none 0 0,iI (a9 c g)],by kernel_rfl,fun w' hb hf ha => by rw [hmod]; exact gu ((v29a,v29c),(none,0)) rfl rfl (pO (hf _ m0) hB) ⟨.inl ⟨rfl,_,rfl⟩,fun b hb => (hb.1 rfl).elim⟩ (ef rfl) hb⟩
 have h31p := bA h31
 refine kK <| kQ <| dy 3 [3,4,7,55,57] [(55,.v (.agg (a7 (heard c g) (.slice v29a ((heard c g).r.held.length) v29c)).toArray)),(57,aI ((heard c g).window))] 46 [.agg (a7 (heard c g) (.slice v29a ((heard c g).r.held.length) v29c)).toArray,iI ((heard c g).window)] (some 58) rfl (cZ fun ww hw hf => yiPump_c (heard c g) (.slice v29a ((heard c g).r.held.length) v29c) ((heard c g).window) ww (Own.sl (hf _ m0)) (by assumption) (by assumption) (by omega) (by omega) w.heap.size hw) ?_
 rintro ⟨⟨v32a,v32c⟩,⟨v33a,v33c⟩⟩
 have hbd34 : (pump (heard c g) ((heard c g).window)).1.r.held.length ≤ 1048576 ∧ (pump (heard c g) ((heard c g).window)).2.length ≤ 49 := eC _ _  (by omega)
 have hbd34a := hbd34.1; have hbd34b := hbd34.2
 refine i5 [3,4,7,9,10] [(9,.p 4 0),(10,.v (.slice v33a ((pump (heard c g) ((heard c g).window)).2.length) v33c))] [⟨44,a7 (pump (heard c g) ((heard c g).window)).1 (.slice v32a ((pump (heard c g) ((heard c g).window)).1.r.held.length) v32c)⟩] <| kS <| kQ <| cA 4 [3,4,7,9,10,64] [(64,aB ((((pump (heard c g) ((heard c g).window)).2.length : Nat) : Int) == 0))] ?_
 refine kP 64 ((((pump (heard c g) ((heard c g).window)).2.length : Nat) : Int) == 0) (fun h35 => ?_) (fun h35 => ?_)
 have h35p := bC h35
 have hnil : (pump (heard c g) (heard c g).window).2 = [] := List.length_eq_zero_iff.1 (by have := h35; simp at this; first | omega | simp_all)
 have hpn := pump_none hnil
 have hpz : (pump (heard c g) (heard c g).window).1.r.data.size ≤ 4611686018427387904 := by rw [pump_rr]; omega
 refine dy 1 [4,7,9,10,64,65] [(64,aB true),(65,.v (.agg (aG g).toArray))] 47 [.agg (aG g).toArray] (some 66) rfl (aA fun ww hf => i6 g.src g.dst g.seq g.ack g.flags g.window g.o.mss g.o.scale g.o.sack g.o.stamp g.o.val g.o.echo g.body ww (by omega)) ?_
 intro _
 refine aR [4,7,9,10,68] [(68,aB ((bQ g) != 0))] <| kC ((bQ g) != 0) (fun h36 => ?_) (fun h36 => ?_)
 have h36p := neT h36
 refine kG <| dy 1 [4,7,9,10,69] [(69,.v (.agg (a7 (pump (heard c g) ((heard c g).window)).1 (.slice v32a ((pump (heard c g) ((heard c g).window)).1.r.held.length) v32c)).toArray))] 45 [.agg (a7 (pump (heard c g) ((heard c g).window)).1 (.slice v32a ((pump (heard c g) ((heard c g).window)).1.r.held.length) v32c)).toArray] (some 70) rfl (aA fun ww hf => iw ((pump (heard c g) ((heard c g).window)).1) (.slice v32a ((pump (heard c g) ((heard c g).window)).1.r.held.length) v32c) ww (Own.sl (hf _ m0)) (by first | omega | (dsimp only; omega))) ?_
 intro _
 refine kHD 0 [4,7,9,10,70] [] rfl (bi (e := 50) (K := 13) (bytes := 104) [.agg #[iI ((pump (heard c g) ((heard c g).window)).1.t.my),iI ((pump (heard c g) ((heard c g).window)).1.t.port),iI (ay ((pump (heard c g) ((heard c g).window)).1.s)),iI ((pump (heard c g) ((heard c g).window)).1.r.next),iI 16,iI (wO ((pump (heard c g) ((heard c g).window)).1.r)),iI 0,iI (-1),.bool false,.bool false,iI 0,iI 0,.string (⟨#[]⟩ : ByteArray)]] (rs := ([⟨(pump (heard c g) ((heard c g).window)).1.t.my,(pump (heard c g) ((heard c g).window)).1.t.port,ay ((pump (heard c g) ((heard c g).window)).1.s),(pump (heard c g) ((heard c g).window)).1.r.next,16,wO ((pump (heard c g) ((heard c g).window)).1.r),⟨0,(-1),false,false,0,0⟩,(⟨#[]⟩ : ByteArray)⟩] : List Seg).map ak) rfl rfl) ?_
 intro g37
 refine aR [4,7,9,10] [(10,.v (.slice (some ⟨g37,0,none⟩) 1 1))] <| kQ <| bf [4,5,6] [(5,.v (.slice (some ⟨g37,0,none⟩) 1 1)),(6,aI (a9 c g))] 2 ⟨44,a7 (pump (heard c g) ((heard c g).window)).1 (.slice v32a ((pump (heard c g) ((heard c g).window)).1.r.held.length) v32c)⟩ <| kR ?_
 have hmod : a8 c g = (((pump (heard c g) ((heard c g).window)).1),([⟨(pump (heard c g) ((heard c g).window)).1.t.my,(pump (heard c g) ((heard c g).window)).1.t.port,ay ((pump (heard c g) ((heard c g).window)).1.s),(pump (heard c g) ((heard c g).window)).1.r.next,16,wO ((pump (heard c g) ((heard c g).window)).1.r),⟨0,(-1),false,false,0,0⟩,(⟨#[]⟩ : ByteArray)⟩] : List Seg),(a9 c g)) := by first | exact cN (by assumption) (by assumption) (by assumption) (by assumption) | exact dx hv5 (by assumption) hpn (by assumption) | (simp [a8,br,bZ, *]; done) | grind [a8,br,bZ]
 exact ⟨[.agg (a7 (pump (heard c g) ((heard c g).window)).1 (.slice v32a ((pump (heard c g) ((heard c g).window)).1.r.held.length) v32c)).toArray,.slice (some ⟨g37,0,none⟩) 1 1,iI (a9 c g)],by kernel_rfl,fun w' hb hf ha => by rw [hmod]; exact gu ((v32a,v32c),(((some ⟨g37,0,none⟩) : Option Addr),1)) rfl rfl (pO (hf _ m1) hB) (pR (hf _ m0) hB) (Apart.sub2 ha (i := 1) (j := 0) rfl rfl (by decide) rfl (fun b h => h) (fun b h => bX h)) hb⟩
 have h36p := neF h36
 refine kK <| kQ <| bf [4,5,6] [(5,.v (.slice v33a ((pump (heard c g) ((heard c g).window)).2.length) v33c)),(6,aI (a9 c g))] 2 ⟨44,a7 (pump (heard c g) ((heard c g).window)).1 (.slice v32a ((pump (heard c g) ((heard c g).window)).1.r.held.length) v32c)⟩ <| kR ?_
 have hmod : a8 c g = (((pump (heard c g) ((heard c g).window)).1),((pump (heard c g) ((heard c g).window)).2),(a9 c g)) := by first | exact cN (by assumption) (by assumption) (by assumption) (by assumption) | exact dx hv5 (by assumption) hpn (by assumption) | (simp [a8,br,bZ, *]; done) | grind [a8,br,bZ]
 exact ⟨[.agg (a7 (pump (heard c g) ((heard c g).window)).1 (.slice v32a ((pump (heard c g) ((heard c g).window)).1.r.held.length) v32c)).toArray,.slice v33a ((pump (heard c g) ((heard c g).window)).2.length) v33c,iI (a9 c g)],by kernel_rfl,fun w' hb hf ha => by rw [hmod]; exact gu ((v32a,v32c),(v33a,v33c)) rfl rfl (pO (hf _ m0) hB) (pO (hf _ m1) hB) (Apart.sub2 ha (i := 0) (j := 1) rfl rfl (by decide) rfl (fun b h => h) (fun b h => h)) hb⟩
 have h35p := bA h35
 refine aR [4,7,9,10,68] [(68,aB false)] <| kN <| kK <| kQ <| bf [4,5,6] [(5,.v (.slice v33a ((pump (heard c g) ((heard c g).window)).2.length) v33c)),(6,aI (a9 c g))] 2 ⟨44,a7 (pump (heard c g) ((heard c g).window)).1 (.slice v32a ((pump (heard c g) ((heard c g).window)).1.r.held.length) v32c)⟩ ?_
 refine kR ?_
 have hmod : a8 c g = (((pump (heard c g) ((heard c g).window)).1),((pump (heard c g) ((heard c g).window)).2),(a9 c g)) := by first | exact cN (by assumption) (by assumption) (by assumption) (by assumption) | exact dx hv5 (by assumption) hpn (by assumption) | (simp [a8,br,bZ, *]; done) | grind [a8,br,bZ]
 exact ⟨[.agg (a7 (pump (heard c g) ((heard c g).window)).1 (.slice v32a ((pump (heard c g) ((heard c g).window)).1.r.held.length) v32c)).toArray,.slice v33a ((pump (heard c g) ((heard c g).window)).2.length) v33c,iI (a9 c g)],by kernel_rfl,fun w' hb hf ha => by rw [hmod]; exact gu ((v32a,v32c),(v33a,v33c)) rfl rfl (pO (hf _ m0) hB) (pO (hf _ m1) hB) (Apart.sub2 ha (i := 0) (j := 1) rfl rfl (by decide) rfl (fun b h => h) (fun b h => h)) hb⟩
 have h28p := bA h28
 refine kK <| kQ <| bf [4,5,6] [(5,.v (.slice none 0 0)),(6,aI (a9 c g))] 2 ⟨44,a7 c (cS v1a c v1c)⟩ <| kR ?_
 have hmod : a8 c g = (c,[],(a9 c g)) := by first | exact cN (by assumption) (by assumption) (by assumption) (by assumption) | exact dx hv5 (by assumption) hpn (by assumption) | (simp [a8,br,bZ, *]; done) | grind [a8,br,bZ]
 exact ⟨[.agg (a7 c (cS v1a c v1c)).toArray,.slice none 0 0,iI (a9 c g)],by kernel_rfl,fun w' hb hf ha => by rw [hmod]; exact gu ((v1a,v1c),(none,0)) rfl rfl (pO (hf _ m0) hB) ⟨.inl ⟨rfl,_,rfl⟩,fun b hb => (hb.1 rfl).elim⟩ (ef rfl) hb⟩
theorem ysameSegments_c (a : List Seg) (aV : Value) (b : List Seg) (bV : Value) (w : World) (hl_aV : Sl w aV 13 (a.map ak)) (hl_bV : Sl w bV 13 (b.map ak))  : Calls Tryz.prog 21 #[aV, bV] w fun e w' => e = .returned (.bool (ew gv a b)) ∧ Below w.heap.size w w' := by
 obtain ⟨Aa,Ca,hva⟩ := hl_aV.form
 rw [List.length_map] at hva; subst hva
 have hna := hl_aV.len; rw [List.length_map] at hna
 have hqa := Sl.capLe hl_aV
 obtain ⟨Ab,Cb,hvb⟩ := hl_bV.form
 rw [List.length_map] at hvb; subst hvb
 have hnb := hl_bV.len; rw [List.length_map] at hnb
 have hqb := Sl.capLe hl_bV
 refine bH (args := [.slice Aa a.length Ca,.slice Ab b.length Cb]) (fn := Tryz.f21) [c7 (.slice Aa a.length Ca) 13 (a.map ak),c7 (.slice Ab b.length Cb) 13 (b.map ak)] Tryz.func21 rfl Tryz.ntmps21 rfl (by simp only [List.mem_cons,List.not_mem_nil,or_false,forall_eq_or_imp,forall_eq]; exact ⟨⟨rfl,hl_aV⟩,⟨rfl,hl_bV⟩⟩) ?_
 refine kQ <| c8 [0,1] ⟨[(0,.v (.slice Aa a.length Ca)),(1,.v (.slice Ab b.length Cb))],[],[],[c7 (.slice Aa a.length Ca) 13 (a.map ak),c7 (.slice Ab b.length Cb) 13 (b.map ak)]⟩ <| kS <| kQ <| aJ [0,1,10] [(0,.v (.slice Aa a.length Ca)),(1,.v (.slice Ab b.length Cb)),(10,aB (((a.length : Nat) : Int) != ((b.length : Nat) : Int)))] ?_
 refine kC (((a.length : Nat) : Int) != ((b.length : Nat) : Int)) (fun h1 => ?_) (fun h1 => ?_)
 have h1p := neT h1
 refine kQ <| aJ [4] [(4,aB false)] <| kR ?_
 exact ⟨[.bool false],by kernel_rfl,fun w' hb hf => ⟨aU (show (false : Bool) = ew gv a b from by first | rfl | (simp [ct, *]; done) | grind [ct,ct]),hb⟩⟩
 have h1p := neF h1
 refine kK <| kS <| kQ <| aJ [0,1,5] [(0,.v (.slice Aa a.length Ca)),(1,.v (.slice Ab b.length Cb)),(5,aI 0)] ?_
 refine aZ ?_
 have hlen : a.length = b.length := by omega
 refine cz (α := {x : Nat // (fun (k : Nat) => k ≤ a.length ∧ ∀ (i : Nat) (x y : Seg),i < k → a[i]? = some x → b[i]? = some y → gv x y = true) x}) (fun x => (fun (k : Nat) => (⟨[(0,.v (.slice Aa a.length Ca)),(1,.v (.slice Ab b.length Cb)),(5,aI (k : Int))],[],[],[c7 (.slice Aa a.length Ca) 13 (a.map ak),c7 (.slice Ab b.length Cb) 13 (b.map ak)]⟩ : St)) x.1) (fun x => a.length - x.1) ⟨(0),⟨Nat.zero_le _,fun i x y hi => by omega⟩⟩ (kF 0 0 [0,1,5]) ?_
 rintro ⟨k,hk,HK⟩
 try dsimp only
 try dsimp only at hk HK
 refine kS <| kQ <| aJ [0,1,5,14] [(0,.v (.slice Aa a.length Ca)),(1,.v (.slice Ab b.length Cb)),(5,aI (k : Int)),(14,aB (decide ((k : Int) < ((a.length : Nat) : Int))))] <| kC (decide ((k : Int) < ((a.length : Nat) : Int))) (fun h2 => ?_) (fun h2 => ?_)
 have h2p := of_decide_eq_true h2
 have hlt : k < a.length := by simpa using h2
 obtain ⟨x,hx⟩ : ∃ x,a[k]? = some x := ⟨_,List.getElem?_eq_getElem hlt⟩
 obtain ⟨y,hy⟩ : ∃ y,b[k]? = some y := ⟨_,List.getElem?_eq_getElem (by omega)⟩
 refine kK <| kS <| aZ <| kS <| fy ?_
 refine gn (K := 13) (j := k) [iI x.src,iI x.dst,iI x.seq,iI x.ack,iI x.flags,iI x.window,iI x.o.mss,iI x.o.scale,.bool x.o.sack,.bool x.o.stamp,iI x.o.val,iI x.o.echo,.string x.body] (c7 (.slice Aa a.length Ca) 13 (a.map ak)) (fun _ _ h => h) (by simp) (fun w h => h) (fun b h => h) (by simp only [List.getElem?_map,hx]; rfl) (fun bq3 offq3 hAq3 => ?_)
 refine gn (K := 13) (j := k) [iI y.src,iI y.dst,iI y.seq,iI y.ack,iI y.flags,iI y.window,iI y.o.mss,iI y.o.scale,.bool y.o.sack,.bool y.o.stamp,iI y.o.val,iI y.o.echo,.string y.body] (c7 (.slice Ab b.length Cb) 13 (b.map ak)) (fun _ _ h => h) (by simp) (fun w h => h) (fun b h => h) (by simp only [List.getElem?_map,hy]; rfl) (fun bq4 offq4 hAq4 => ?_)
 refine e9 [] (by kernel_rfl) (fun ρ σ hq5 => ?_)
 refine ca [0,1,4,5] [22,21,18,17,0,1,5] 5 [(22,aI (k : Int)),(21,.v (.slice Ab b.length Cb)),(18,aI (k : Int)),(17,.v (.slice Aa a.length Ca)),(0,.v (.slice Aa a.length Ca)),(1,.v (.slice Ab b.length Cb)),(5,aI (k : Int))] <| fZ (kd := .i64) (T := 45) (e := 50) (K := 13) (j := k) (A := Aa) (len := a.length) (cap := Ca) 2 0 _ rfl (by kernel_rfl) (by kernel_rfl) (by kernel_rfl) (fun _ _ h => h) (by kernel_rfl) rfl rfl (by kernel_rfl) (by kernel_rfl) (by kernel_rfl) (by kernel_rfl) hlt hAq3 hq5.1.2 (by kernel_rfl) rfl ?_
 refine ca [3] [20,22,21,0,1,5] 3 [(20,.v (.agg (aG x).toArray)),(22,aI (k : Int)),(21,.v (.slice Ab b.length Cb)),(0,.v (.slice Aa a.length Ca)),(1,.v (.slice Ab b.length Cb)),(5,aI (k : Int))] <| fZ (kd := .i64) (T := 45) (e := 50) (K := 13) (j := k) (A := Ab) (len := b.length) (cap := Cb) 6 1 _ rfl (by kernel_rfl) (by kernel_rfl) (by kernel_rfl) (fun _ _ h => h) (by kernel_rfl) rfl rfl (by kernel_rfl) (by kernel_rfl) (by kernel_rfl) (by kernel_rfl) (by omega) hAq4 hq5.2 (by kernel_rfl) rfl ?_
 refine ca [7] [24,20,0,1,5] 1 [(24,.v (.agg (aG y).toArray)),(20,.v (.agg (aG x).toArray)),(0,.v (.slice Aa a.length Ca)),(1,.v (.slice Ab b.length Cb)),(5,aI (k : Int))] <| kX 8 (.bool (!gv x y)) rfl (fun _ _ ww hA => cj hA rfl (by kernel_rfl) (by kernel_rfl) (fJ (by kernel_rfl) (run_neq_SEG x.src x.dst x.seq x.ack x.flags x.window x.o.mss x.o.scale x.o.sack x.o.stamp x.o.val x.o.echo x.body y.src y.dst y.seq y.ack y.flags y.window y.o.mss y.o.scale y.o.sack y.o.stamp y.o.val y.o.echo y.body ww))) ?_
 refine kZ <| kC (!gv x y) (fun h6 => ?_) (fun h6 => ?_)
 have hno := sameL_no hx hy (by simpa using h6)
 refine kQ <| aJ [4] [(4,aB false)] <| kR ?_
 exact ⟨[.bool false],by kernel_rfl,fun w' hb hf => ⟨aU (show (false : Bool) = ew gv a b from by first | rfl | (simp [ct, *]; done) | grind [ct,ct]),hb⟩⟩
 have hye : gv x y = true := by simpa using h6
 refine kK <| kG <| cR 3 [0,1,5] [(0,.v (.slice Aa a.length Ca)),(1,.v (.slice Ab b.length Cb)),(5,aI (K6.wrap ((k : Int) + 1)))] <| dg (t' := [(0,.v (.slice Aa a.length Ca)),(1,.v (.slice Ab b.length Cb)),(5,aI ((k : Int) + 1))]) (by rw [show (K6.wrap ((k : Int) + 1)) = ((k : Int) + 1) from ab (by omega) (by omega)]) ?_
 refine aJ [0,1,5] [(0,.v (.slice Aa a.length Ca)),(1,.v (.slice Ab b.length Cb)),(5,aI ((k : Int) + 1))] ?_
 exact ⟨⟨(k + 1),⟨by omega,same_step hx hy hye HK⟩⟩,kF 0 0 [0,1,5],by show a.length - (k + 1) < a.length - k; omega⟩
 have h2p := of_decide_eq_false h2
 have hge : k = a.length := by simp at h2; omega
 have hall := ig hge hlen HK
 refine cq <| kQ <| aJ [4] [(4,aB true)] <| kR ?_
 exact ⟨[.bool true],by kernel_rfl,fun w' hb hf => ⟨aU (show (true : Bool) = ew gv a b from by first | rfl | (simp [ct, *]; done) | grind [ct,ct]),hb⟩⟩
theorem sameSeg_self (l : List Seg) : ew gv l l = true := sameL_yes rfl fun i x y h1 h2 => by rw [h1] at h2; simp only [Option.some.injEq] at h2; subst h2; exact segEq_self x
end Go.Proofs.YtebgmdiejgcoiaaGreat
