/- Contracts that this law needs, part 4. -/
import Derived.Test.YtccijpdjfelbmaaZ3
namespace Go.Proofs.Ytccijpdjfelbmaa
open Go.RowKit
set_option linter.unusedVariables false
set_option linter.unusedSimpArgs false
set_option maxRecDepth 100000
set_option maxHeartbeats 2000000

theorem l17Sender_c (g : Nat) (J : List Int) (A : Option Addr) (cap : Nat)  (w : World) (B : Nat) (hB : B ≤ w.heap.size) (hc : (cF B g A J cap).p w) (hl : Sl w (sJ A J cap) 1 (J.map bR)) (hap : ¬ (sQ A J cap).blk g) (hn : J.length ≤ 1048576)  : Calls Try.prog 46 #[gP g] w fun e w' => ∃ y : {y : Snd // True}, e = .returned (.agg (am y.1).toArray) ∧ (cF B g A J cap).p w' ∧ Chgd (fun b => b = g) w w' := by
 have hq_code := Sl.capLe hl
 have hBw : B ≤ (aw w B).heap.size := Nat.le_of_eq (aW hB).symm
 have hlo : ∀ (ww : World) (b : Nat),(cF B g A J cap).p ww → (cF B g A J cap).blk b → (aw w B).heap.size ≤ b := fun ww b h hb => Nat.le_trans (bC w B) (cQ h hb)
 refine ci (args := [gP g]) (fn := Try.f46) [cF B g A J cap,sQ A J cap,bd w (fun b => b = g)] B Try.func46 rfl Try.ntmps46 rfl hB (by simp only [List.mem_cons,List.not_mem_nil,or_false,forall_eq_or_imp,forall_eq]; exact ⟨hc,hl,bn w _⟩) (bX hap rfl) ?_
 refine kQ <| cv [0,2] ⟨[(0,aP g),(2,.p 0 0)],[⟨43,sndZ⟩],[],[cF B g A J cap,sQ A J cap,bd w (fun b => b = g)]⟩ <| kQ <| d2 1 [0,2,8] [(8,aP g)] 36 [gP g] (some 9) 0 rfl rfl hlo (cM hBw hap) ?_
 rintro ⟨y1,hy1⟩
 refine fD 0 [0,2,9] [] (.agg #[iI y1,.string (⟨#[]⟩ : ByteArray),iI 0,.bool false,.bool false,.bool false]) rfl (fun _ _ _ ww hr => aH [(0,iI y1)] hr.1 rfl (by kernel_rfl) (by kernel_rfl) ww) ?_
 refine kEA [0,2,3] [(3,.p 1 0)] [⟨43,[iI y1,.string (⟨#[]⟩ : ByteArray),iI 0,.bool false,.bool false,.bool false]⟩] <| kQ <| d2 1 [0,2,3,11] [(11,aP g)] 16 [gP g,iI 6] (some 12) 0 rfl rfl hlo (av hBw hap) ?_
 rintro ⟨y2,hy2⟩
 obtain ⟨hy20,hy21⟩ := hy2
 refine aU [0,2,3,4] [(4,aI y2)] <| kS <| kQ <| aU [0,2,3,4,5] [(5,aI 0)] ?_
 refine aj <| bI (α := {x : Nat × Snd // (fun (i : Nat) (s : Snd) => (i : Int) ≤ y2) x.1 x.2}) (fun x => (fun (i : Nat) (s : Snd) => (⟨[(0,aP g),(2,.p 0 0),(3,.p 1 0),(4,aI y2),(5,aI (i : Int))],[⟨43,sndZ⟩,⟨43,am s⟩],[],[cF B g A J cap,sQ A J cap,bd w (fun b => b = g)]⟩ : St)) x.1.1 x.1.2) (fun x => (fun (i : Nat) (s : Snd) => (y2).toNat - i) x.1.1 x.1.2) ⟨(0,⟨y1,(⟨#[]⟩ : ByteArray),0,false,false,false⟩),(by omega)⟩ (kF 2 0 [0,2,3,4,5]) ?_
 rintro ⟨⟨i,s⟩,hi⟩
 try dsimp only
 try dsimp only at hi
 refine kS <| kQ <| aU [0,2,3,4,5,15] [(15,aB (decide ((i : Int) < y2)))] <| kC (decide ((i : Int) < y2)) (fun h3 => ?_) (fun h3 => ?_)
 have h3p := of_decide_eq_true h3
 have hlt :  (i : Int) < y2 := of_decide_eq_true h3
 refine kK <| kS <| d9 (α := {zz : Snd // (fun (s2 : Snd) => True) zz}) (fun zz => (fun (s2 : Snd) => (⟨[(0,aP g),(2,.p 0 0),(3,.p 1 0),(4,aI y2),(5,aI (i : Int))],[⟨43,sndZ⟩,⟨43,am s2⟩],[],[cF B g A J cap,sQ A J cap,bd w (fun b => b = g)]⟩ : St)) zz.1) ?_ ?_
 refine aj <| kQ <| d2 1 [0,2,3,4,5,18] [(18,aP g)] 16 [gP g,iI 4] (some 19) 0 rfl rfl hlo (av hBw hap) ?_
 rintro ⟨y4,hy4⟩
 obtain ⟨hy40,hy41⟩ := hy4
 refine aU [0,2,3,4,5,19] [] <| aj <| kQ <| aU [0,2,3,4,5,19,27] [(27,aB (y4 == 0))] ?_
 refine kC (y4 == 0) (fun h5 => ?_) (fun h5 => ?_)
 have h5p := cN h5
 refine bw [true,false] (by kernel_rfl) (fun ρ σ => ?_)
 refine cK [1,2] [32,31,0,2,3,4,5] 9 [(32,aP g),(31,aP g),(0,aP g),(2,.p 0 0),(3,.p 1 0),(4,aI y2),(5,aI (i : Int))] <| kA [0,3] ⟨?_,?_⟩
 refine e6 0 (.v (.agg (am s).toArray)) rfl <| kA [3] <| eD 3 16 [gP g,iI 20] (some 33) 0 rfl rfl hlo (a5 (aq rfl a7)) (av hBw hap) ?_
 rintro ⟨y6,hy6⟩
 obtain ⟨hy60,hy61⟩ := hy6
 refine kA [4] <| eD 4 39 [gP g,iI y6] (some 34) 0 rfl rfl hlo (a5 (aq rfl a7)) (eT fun ww hw hf => eJ g J A cap y6 ww B (Nat.le_trans (by first | exact Nat.le_refl _ | exact Nat.le_of_eq (aW hB).symm) hw) (hf (cF B g A J cap) (by simp)) (hf _ m1) hap (by omega) (by omega)) ?_
 rintro ⟨⟨b7l,b7a,b7c⟩,hb7⟩
 dsimp only at hb7
 refine kA [5] <| kSR 5 (.string (ai b7l)) rfl (fun _ _ ww hr => cG (e := 5) b7l hr.1 rfl (by kernel_rfl) (by kernel_rfl) (by kernel_rfl) rfl (au (hr.2.fact (a9 (aw w B).heap.size 5 1 (.slice b7a b7l.length b7c) (b7l.map bR)) (by simp)).1)) ?_
 refine kA [6] <| d8 6 59 [.agg (am s).toArray,.string (ai b7l)] (some 36) rfl (br fun ww hf => fK s (ai b7l) ww  (by first | omega | (rw [cU]; omega))) ?_
 intro _
 refine d3 [7,8,9] [37,0,2,3,4,5] 1 [(37,.v (.agg (am (aN s (ai b7l)).1).toArray))] <| kA [10] <| dp 10 1 0 (am (aN s (ai b7l)).1) rfl <| kZ ?_
 exact ⟨⟨((aN s (ai b7l)).1),⟨⟩⟩,en [1,2,3] <| kF 2 0 [0,2,3,4,5]⟩
 refine eD 3 16 [gP g,iI 20] (some 33) 0 rfl rfl hlo (a5 (aq rfl a7)) (av hBw hap) ?_
 rintro ⟨y8,hy8⟩
 obtain ⟨hy80,hy81⟩ := hy8
 refine kA [0,4] ⟨?_,?_⟩
 refine e6 0 (.v (.agg (am s).toArray)) rfl <| kA [4] <| eD 4 39 [gP g,iI y8] (some 34) 0 rfl rfl hlo (a5 (aq rfl a7)) (eT fun ww hw hf => eJ g J A cap y8 ww B (Nat.le_trans (by first | exact Nat.le_refl _ | exact Nat.le_of_eq (aW hB).symm) hw) (hf (cF B g A J cap) (by simp)) (hf _ m1) hap (by omega) (by omega)) ?_
 rintro ⟨⟨b9l,b9a,b9c⟩,hb9⟩
 dsimp only at hb9
 refine kA [5] <| kSR 5 (.string (ai b9l)) rfl (fun _ _ ww hr => cG (e := 5) b9l hr.1 rfl (by kernel_rfl) (by kernel_rfl) (by kernel_rfl) rfl (au (hr.2.fact (a9 (aw w B).heap.size 5 1 (.slice b9a b9l.length b9c) (b9l.map bR)) (by simp)).1)) ?_
 refine kA [6] <| d8 6 59 [.agg (am s).toArray,.string (ai b9l)] (some 36) rfl (br fun ww hf => fK s (ai b9l) ww  (by first | omega | (rw [cU]; omega))) ?_
 intro _
 refine d3 [7,8,9] [37,0,2,3,4,5] 1 [(37,.v (.agg (am (aN s (ai b9l)).1).toArray))] <| kA [10] <| dp 10 1 0 (am (aN s (ai b9l)).1) rfl <| kZ ?_
 exact ⟨⟨((aN s (ai b9l)).1),⟨⟩⟩,en [1,2,3] <| kF 2 0 [0,2,3,4,5]⟩
 refine eD 4 39 [gP g,iI y8] (some 34) 0 rfl rfl hlo (a5 (aq rfl a7)) (eT fun ww hw hf => eJ g J A cap y8 ww B (Nat.le_trans (by first | exact Nat.le_refl _ | exact Nat.le_of_eq (aW hB).symm) hw) (hf (cF B g A J cap) (by simp)) (hf _ m1) hap (by omega) (by omega)) ?_
 rintro ⟨⟨b10l,b10a,b10c⟩,hb10⟩
 dsimp only at hb10
 refine kA [0,5] ⟨?_,?_⟩
 refine e6 0 (.v (.agg (am s).toArray)) rfl <| kA [5] <| kSR 5 (.string (ai b10l)) rfl (fun _ _ ww hr => cG (e := 5) b10l hr.1 rfl (by kernel_rfl) (by kernel_rfl) (by kernel_rfl) rfl (au (hr.2.fact (a9 (aw w B).heap.size 5 1 (.slice b10a b10l.length b10c) (b10l.map bR)) (by simp)).1)) ?_
 refine kA [6] <| d8 6 59 [.agg (am s).toArray,.string (ai b10l)] (some 36) rfl (br fun ww hf => fK s (ai b10l) ww  (by first | omega | (rw [cU]; omega))) ?_
 intro _
 refine d3 [7,8,9] [37,0,2,3,4,5] 1 [(37,.v (.agg (am (aN s (ai b10l)).1).toArray))] <| kA [10] <| dp 10 1 0 (am (aN s (ai b10l)).1) rfl <| kZ ?_
 exact ⟨⟨((aN s (ai b10l)).1),⟨⟩⟩,en [1,2,3] <| kF 2 0 [0,2,3,4,5]⟩
 refine kSR 5 (.string (ai b10l)) rfl (fun _ _ ww hr => cG (e := 5) b10l hr.1 rfl (by kernel_rfl) (by kernel_rfl) (by kernel_rfl) rfl (au (hr.2.fact (a9 (aw w B).heap.size 5 1 (.slice b10a b10l.length b10c) (b10l.map bR)) (by simp)).1)) ?_
 refine kA [0] <| e6 0 (.v (.agg (am s).toArray)) rfl <| kA [6] <| d8 6 59 [.agg (am s).toArray,.string (ai b10l)] (some 36) rfl (br fun ww hf => fK s (ai b10l) ww  (by first | omega | (rw [cU]; omega))) ?_
 intro _
 refine d3 [7,8,9] [37,0,2,3,4,5] 1 [(37,.v (.agg (am (aN s (ai b10l)).1).toArray))] <| kA [10] <| dp 10 1 0 (am (aN s (ai b10l)).1) rfl <| kZ ?_
 exact ⟨⟨((aN s (ai b10l)).1),⟨⟩⟩,en [1,2,3] <| kF 2 0 [0,2,3,4,5]⟩
 have h5p := cI h5
 refine kQ <| aD [0,2,3,4,5,19,39] [(0,aP g),(2,.p 0 0),(3,.p 1 0),(4,aI y2),(5,aI (i : Int)),(19,aI y4),(39,aB (y4 == 1))] <| kC (y4 == 1) (fun h11 => ?_) (fun h11 => ?_)
 have h11p := cN h11
 refine kS <| bw [] (by kernel_rfl) (fun ρ σ => ?_)
 refine d3 [0,1,4] [46,43,42,0,2,3,4,5] 11 [(46,aP g),(43,aP g),(42,.v (.agg (am s).toArray))] <| kA [2,11] ⟨?_,?_⟩
 refine eD 2 16 [gP g,iI 40] (some 44) 0 rfl rfl hlo (a5 (a5 a7)) (av hBw hap) ?_
 rintro ⟨y12,hy12⟩
 obtain ⟨hy120,hy121⟩ := hy12
 refine d3 [3] [45,46,42,0,2,3,4,5] 9 [(45,aI (K6.wrap (1 + y12)))] <| kA [5,11] ⟨?_,?_⟩
 refine eD 5 16 [gP g,iI 16] (some 47) 0 rfl rfl hlo (a5 (a5 a7)) (av hBw hap) ?_
 rintro ⟨y13,hy13⟩
 obtain ⟨hy130,hy131⟩ := hy13
 refine d3 [6] [48,45,42,0,2,3,4,5] 7 [(48,aI (K6.wrap (1 + y13)))] <| kA [7,11] ⟨?_,?_⟩
 refine d8 7 78 [.agg (am s).toArray,iI (K6.wrap (1 + y12)),iI (K6.wrap (1 + y13))] (some 49) rfl (br fun ww hf => dd s (K6.wrap (1 + y12)) (K6.wrap (1 + y13)) ww  (by first | omega | (rw [al (by omega) (by omega)]; omega))) ?_
 intro _
 refine d3 [8,9,10] [51,50,0,2,3,4,5] 3 [(51,aB ((nC s (K6.wrap (1 + y12)) (K6.wrap (1 + y13))).2)),(50,.v (.agg (bN (nC s (K6.wrap (1 + y12)) (K6.wrap (1 + y13))).1).toArray))] <| kA [11] <| du 11 ⟨119,bN (⟨0,(⟨#[]⟩ : ByteArray),false⟩ : Chk)⟩ _ rfl (by kernel_rfl) (by kernel_rfl) (by kernel_rfl) (by kernel_rfl) rfl ?_
 refine kA [12] <| dp 12 2 0 (bN (nC s (K6.wrap (1 + y12)) (K6.wrap (1 + y13))).1) rfl <| d3 [13] [7,6,0,2,3,4,5] 0 [(7,aB ((nC s (K6.wrap (1 + y12)) (K6.wrap (1 + y13))).2))] <| kZ <| kQ <| aU [0,2,3,4,5,6,52] [(52,aB ((nC s (K6.wrap (1 + y12)) (K6.wrap (1 + y13))).2))] ?_
 refine kC ((nC s (K6.wrap (1 + y12)) (K6.wrap (1 + y13))).2) (fun h14 => ?_) (fun h14 => ?_)
 refine kG <| dZ 2 [0,2,3,4,5,53,54] [(53,.v (.agg (am s).toArray)),(54,.v (.agg (bN (nC s (K6.wrap (1 + y12)) (K6.wrap (1 + y13))).1).toArray))] 79 [.agg (am s).toArray,.agg (bN (nC s (K6.wrap (1 + y12)) (K6.wrap (1 + y13))).1).toArray] (some 55) rfl (br fun ww hf => fw s ((nC s (K6.wrap (1 + y12)) (K6.wrap (1 + y13))).1) ww  ) ?_
 intro _
 refine ba [0,2,3,4,5] [] 1 ⟨43,am (sO s ((nC s (K6.wrap (1 + y12)) (K6.wrap (1 + y13))).1))⟩ ?_
 exact ⟨⟨((sO s ((nC s (K6.wrap (1 + y12)) (K6.wrap (1 + y13))).1))),⟨⟩⟩,kF 2 0 [0,2,3,4,5]⟩
 refine kK ?_
 exact ⟨⟨(s),⟨⟩⟩,kF 2 0 [0,2,3,4,5]⟩
 refine du 11 ⟨119,bN (⟨0,(⟨#[]⟩ : ByteArray),false⟩ : Chk)⟩ _ rfl (by kernel_rfl) (by kernel_rfl) (by kernel_rfl) (by kernel_rfl) rfl ?_
 refine kA [7] <| d8 7 78 [.agg (am s).toArray,iI (K6.wrap (1 + y12)),iI (K6.wrap (1 + y13))] (some 49) rfl (br fun ww hf => dd s (K6.wrap (1 + y12)) (K6.wrap (1 + y13)) ww  (by first | omega | (rw [al (by omega) (by omega)]; omega))) ?_
 intro _
 refine d3 [8,9,10] [51,50,6,0,2,3,4,5] 2 [(51,aB ((nC s (K6.wrap (1 + y12)) (K6.wrap (1 + y13))).2)),(50,.v (.agg (bN (nC s (K6.wrap (1 + y12)) (K6.wrap (1 + y13))).1).toArray))] <| kA [12] <| dp 12 2 0 (bN (nC s (K6.wrap (1 + y12)) (K6.wrap (1 + y13))).1) rfl <| d3 [13] [7,6,0,2,3,4,5] 0 [(7,aB ((nC s (K6.wrap (1 + y12)) (K6.wrap (1 + y13))).2))] ?_
 refine kZ <| kQ <| aU [0,2,3,4,5,6,52] [(52,aB ((nC s (K6.wrap (1 + y12)) (K6.wrap (1 + y13))).2))] <| kC ((nC s (K6.wrap (1 + y12)) (K6.wrap (1 + y13))).2) (fun h15 => ?_) (fun h15 => ?_)
 refine kG <| dZ 2 [0,2,3,4,5,53,54] [(53,.v (.agg (am s).toArray)),(54,.v (.agg (bN (nC s (K6.wrap (1 + y12)) (K6.wrap (1 + y13))).1).toArray))] 79 [.agg (am s).toArray,.agg (bN (nC s (K6.wrap (1 + y12)) (K6.wrap (1 + y13))).1).toArray] (some 55) rfl (br fun ww hf => fw s ((nC s (K6.wrap (1 + y12)) (K6.wrap (1 + y13))).1) ww  ) ?_
 intro _
 refine ba [0,2,3,4,5] [] 1 ⟨43,am (sO s ((nC s (K6.wrap (1 + y12)) (K6.wrap (1 + y13))).1))⟩ ?_
 exact ⟨⟨((sO s ((nC s (K6.wrap (1 + y12)) (K6.wrap (1 + y13))).1))),⟨⟩⟩,kF 2 0 [0,2,3,4,5]⟩
 refine kK ?_
 exact ⟨⟨(s),⟨⟩⟩,kF 2 0 [0,2,3,4,5]⟩
 refine du 11 ⟨119,bN (⟨0,(⟨#[]⟩ : ByteArray),false⟩ : Chk)⟩ _ rfl (by kernel_rfl) (by kernel_rfl) (by kernel_rfl) (by kernel_rfl) rfl ?_
 refine kA [5] <| eD 5 16 [gP g,iI 16] (some 47) 0 rfl rfl hlo (a5 (a5 a7)) (av hBw hap) ?_
 rintro ⟨y16,hy16⟩
 obtain ⟨hy160,hy161⟩ := hy16
 refine d3 [6] [48,6,45,42,0,2,3,4,5] 6 [(48,aI (K6.wrap (1 + y16)))] <| kA [7] <| d8 7 78 [.agg (am s).toArray,iI (K6.wrap (1 + y12)),iI (K6.wrap (1 + y16))] (some 49) rfl (br fun ww hf => dd s (K6.wrap (1 + y12)) (K6.wrap (1 + y16)) ww  (by first | omega | (rw [al (by omega) (by omega)]; omega))) ?_
 intro _
 refine d3 [8,9,10] [51,50,6,0,2,3,4,5] 2 [(51,aB ((nC s (K6.wrap (1 + y12)) (K6.wrap (1 + y16))).2)),(50,.v (.agg (bN (nC s (K6.wrap (1 + y12)) (K6.wrap (1 + y16))).1).toArray))] <| kA [12] <| dp 12 2 0 (bN (nC s (K6.wrap (1 + y12)) (K6.wrap (1 + y16))).1) rfl <| d3 [13] [7,6,0,2,3,4,5] 0 [(7,aB ((nC s (K6.wrap (1 + y12)) (K6.wrap (1 + y16))).2))] ?_
 refine kZ <| kQ <| aU [0,2,3,4,5,6,52] [(52,aB ((nC s (K6.wrap (1 + y12)) (K6.wrap (1 + y16))).2))] <| kC ((nC s (K6.wrap (1 + y12)) (K6.wrap (1 + y16))).2) (fun h17 => ?_) (fun h17 => ?_)
 refine kG <| dZ 2 [0,2,3,4,5,53,54] [(53,.v (.agg (am s).toArray)),(54,.v (.agg (bN (nC s (K6.wrap (1 + y12)) (K6.wrap (1 + y16))).1).toArray))] 79 [.agg (am s).toArray,.agg (bN (nC s (K6.wrap (1 + y12)) (K6.wrap (1 + y16))).1).toArray] (some 55) rfl (br fun ww hf => fw s ((nC s (K6.wrap (1 + y12)) (K6.wrap (1 + y16))).1) ww  ) ?_
 intro _
 refine ba [0,2,3,4,5] [] 1 ⟨43,am (sO s ((nC s (K6.wrap (1 + y12)) (K6.wrap (1 + y16))).1))⟩ ?_
 exact ⟨⟨((sO s ((nC s (K6.wrap (1 + y12)) (K6.wrap (1 + y16))).1))),⟨⟩⟩,kF 2 0 [0,2,3,4,5]⟩
 refine kK ?_
 exact ⟨⟨(s),⟨⟩⟩,kF 2 0 [0,2,3,4,5]⟩
 refine du 11 ⟨119,bN (⟨0,(⟨#[]⟩ : ByteArray),false⟩ : Chk)⟩ _ rfl (by kernel_rfl) (by kernel_rfl) (by kernel_rfl) (by kernel_rfl) rfl ?_
 refine kA [2] <| eD 2 16 [gP g,iI 40] (some 44) 0 rfl rfl hlo (a5 (a5 a7)) (av hBw hap) ?_
 rintro ⟨y18,hy18⟩
 obtain ⟨hy180,hy181⟩ := hy18
 refine d3 [3] [45,6,46,42,0,2,3,4,5] 8 [(45,aI (K6.wrap (1 + y18)))] <| kA [5] <| eD 5 16 [gP g,iI 16] (some 47) 0 rfl rfl hlo (a5 (a5 a7)) (av hBw hap) ?_
 rintro ⟨y19,hy19⟩
 obtain ⟨hy190,hy191⟩ := hy19
 refine d3 [6] [48,45,6,42,0,2,3,4,5] 6 [(48,aI (K6.wrap (1 + y19)))] <| kA [7] <| d8 7 78 [.agg (am s).toArray,iI (K6.wrap (1 + y18)),iI (K6.wrap (1 + y19))] (some 49) rfl (br fun ww hf => dd s (K6.wrap (1 + y18)) (K6.wrap (1 + y19)) ww  (by first | omega | (rw [al (by omega) (by omega)]; omega))) ?_
 intro _
 refine d3 [8,9,10] [51,50,6,0,2,3,4,5] 2 [(51,aB ((nC s (K6.wrap (1 + y18)) (K6.wrap (1 + y19))).2)),(50,.v (.agg (bN (nC s (K6.wrap (1 + y18)) (K6.wrap (1 + y19))).1).toArray))] <| kA [12] <| dp 12 2 0 (bN (nC s (K6.wrap (1 + y18)) (K6.wrap (1 + y19))).1) rfl <| d3 [13] [7,6,0,2,3,4,5] 0 [(7,aB ((nC s (K6.wrap (1 + y18)) (K6.wrap (1 + y19))).2))] ?_
 refine kZ <| kQ <| aU [0,2,3,4,5,6,52] [(52,aB ((nC s (K6.wrap (1 + y18)) (K6.wrap (1 + y19))).2))] <| kC ((nC s (K6.wrap (1 + y18)) (K6.wrap (1 + y19))).2) (fun h20 => ?_) (fun h20 => ?_)
 refine kG <| dZ 2 [0,2,3,4,5,53,54] [(53,.v (.agg (am s).toArray)),(54,.v (.agg (bN (nC s (K6.wrap (1 + y18)) (K6.wrap (1 + y19))).1).toArray))] 79 [.agg (am s).toArray,.agg (bN (nC s (K6.wrap (1 + y18)) (K6.wrap (1 + y19))).1).toArray] (some 55) rfl (br fun ww hf => fw s ((nC s (K6.wrap (1 + y18)) (K6.wrap (1 + y19))).1) ww  ) ?_
 intro _
 refine ba [0,2,3,4,5] [] 1 ⟨43,am (sO s ((nC s (K6.wrap (1 + y18)) (K6.wrap (1 + y19))).1))⟩ ?_
 exact ⟨⟨((sO s ((nC s (K6.wrap (1 + y18)) (K6.wrap (1 + y19))).1))),⟨⟩⟩,kF 2 0 [0,2,3,4,5]⟩
 refine kK ?_
 exact ⟨⟨(s),⟨⟩⟩,kF 2 0 [0,2,3,4,5]⟩
 have h11p := cI h11
 refine kQ <| aU [0,2,3,4,5,56] [(56,aB (y4 == 2))] <| kC (y4 == 2) (fun h21 => ?_) (fun h21 => ?_)
 have h21p := cN h21
 refine bw [true,false] (by kernel_rfl) (fun ρ σ => ?_)
 refine xe_cut (α := {zz : Int // (fun (y373 : Int) => 0 ≤ y373 ∧ (0 < (K6.wrap ((af s) + 1)) → y373 < (K6.wrap ((af s) + 1)))) zz}) (fun zz => (fun (y373 : Int) => (⟨[(0,aP g),(2,.p 0 0),(3,.p 1 0),(4,aI y2),(5,aI (i : Int))],[⟨43,sndZ⟩,⟨43,am (aK s (sA s.una y373)).1⟩],[],[cF B g A J cap,sQ A J cap,bd w (fun b => b = g)]⟩ : St)) zz.1) 0 (bi 14 16383) ?_ (fun hD7 => ?_)
 rintro ⟨y373,hy373⟩
 try dsimp only
 try dsimp only at hy373
 obtain ⟨hy3730,hy3731⟩ := hy373
 refine kZ ?_
 exact ⟨⟨((aK s (sA s.una y373)).1),⟨⟩⟩,kF 2 0 [0,2,3,4,5]⟩
 refine cf (α := {zz : Int // (fun (y373 : Int) => 0 ≤ y373 ∧ (0 < (K6.wrap ((af s) + 1)) → y373 < (K6.wrap ((af s) + 1)))) zz}) (fun zz => (fun (y373 : Int) => [(68,.v (.tuple #[.agg (am (aK s (sA s.una y373)).1).toArray,.bool ((aK s (sA s.una y373)).2)]))]) zz.1) [0,2,3,4,5,68] 4 (bi 14 1023) ?_ (fun hD6 => ?_)
 rintro ⟨y373,hy373⟩
 try dsimp only
 try dsimp only at hy373
 obtain ⟨hy3730,hy3731⟩ := hy373
 refine d3 [10,11,12] [69,0,2,3,4,5] 1 [(69,.v (.agg (am (aK s (sA s.una y373)).1).toArray))] <| kA [13] <| dp 13 1 0 (am (aK s (sA s.una y373)).1) rfl ?_
 exact ao (kF 2 0 [0,2,3,4,5]) (by kernel_rfl) (hD7 ⟨(y373),⟨hy3730,hy3731⟩⟩)
 refine cf (α := {zz : Int // (fun (y373 : Int) => 0 ≤ y373 ∧ (0 < (K6.wrap ((af s) + 1)) → y373 < (K6.wrap ((af s) + 1)))) zz}) (fun zz => (fun (y373 : Int) => [(59,.v (.agg (am s).toArray)),(67,aI (sA s.una y373))]) zz.1) [0,2,3,4,5,59,67] 5 (bi 14 511) ?_ (fun hD5 => ?_)
 rintro ⟨y373,hy373⟩
 try dsimp only
 try dsimp only at hy373
 obtain ⟨hy3730,hy3731⟩ := hy373
 refine kA [9] <| d8 9 80 [.agg (am s).toArray,iI (sA s.una y373)] (some 68) rfl (br fun ww hf => ysAcked_c s (sA s.una y373) ww  ) ?_
 intro _
 exact ao (kF 2 0 [0,2,3,4,5,68]) (by kernel_rfl) (hD6 ⟨(y373),⟨hy3730,hy3731⟩⟩)
 refine cf (α := {zz : Int // (fun (y373 : Int) => 0 ≤ y373 ∧ (0 < (K6.wrap ((af s) + 1)) → y373 < (K6.wrap ((af s) + 1)))) zz}) (fun zz => (fun (y373 : Int) => [(59,.v (.agg (am s).toArray)),(61,aI s.una),(66,aI y373)]) zz.1) [0,2,3,4,5,59,61,66] 6 (bi 14 255) ?_ (fun hD4 => ?_)
 rintro ⟨y373,hy373⟩
 try dsimp only
 try dsimp only at hy373
 obtain ⟨hy3730,hy3731⟩ := hy373
 refine kA [8] <| d8 8 56 [iI s.una,iI y373] (some 67) rfl (bF fun ww hf => bk s.una y373 ww ) ?_
 intro _
 exact ao (kF 2 0 [0,2,3,4,5,59,67]) (by kernel_rfl) (hD5 ⟨(y373),⟨hy3730,hy3731⟩⟩)
 refine cf (α := Unit) (fun zz => (fun (u_ : Unit) => [(59,.v (.agg (am s).toArray)),(61,aI s.una),(62,aP g),(64,aI (af s))]) zz) [0,2,3,4,5,59,61,62,64] 8 (bi 14 63) ?_ (fun hD3 => ?_)
 intro u_
 try dsimp only
 refine d3 [6] [65,0,2,3,4,5,59,61,62] 7 [(65,aI (K6.wrap ((af s) + 1)))] <| kA [7] <| eD 7 16 [gP g,iI (K6.wrap ((af s) + 1))] (some 66) 0 rfl rfl hlo (a5 (aq rfl a7)) (av hBw hap) ?_
 rintro ⟨y373,hy373⟩
 obtain ⟨hy3730,hy3731⟩ := hy373
 exact ao (kF 2 0 [0,2,3,4,5,59,61,66]) (by kernel_rfl) (hD4 ⟨(y373),⟨hy3730,hy3731⟩⟩)
 refine cf (α := Unit) (fun zz => (fun (u_ : Unit) => [(59,.v (.agg (am s).toArray)),(61,aI s.una),(62,aP g),(63,.v (.agg (am s).toArray))]) zz) [0,2,3,4,5,59,61,62,63] 9 (bi 14 31) ?_ (fun hD2 => ?_)
 intro u_
 try dsimp only
 refine kA [5] <| d8 5 71 [.agg (am s).toArray] (some 64) rfl (br fun ww hf => dY s.una s.data s.sent s.fin s.finSent s.done ww ) ?_
 intro _
 exact ao (kF 2 0 [0,2,3,4,5,59,61,62,64]) (by kernel_rfl) (hD3 ())
 refine cf (α := Unit) (fun zz => (fun (u_ : Unit) => [(59,.v (.agg (am s).toArray)),(61,aI s.una),(62,aP g)]) zz) [0,2,3,4,5,59,61,62] 10 (bi 14 15) ?_ (fun hD1 => ?_)
 intro u_
 try dsimp only
 refine kA [4] <| e6 4 (.v (.agg (am s).toArray)) rfl ?_
 exact ao (kF 2 0 [0,2,3,4,5,59,61,62,63]) (by kernel_rfl) (hD2 ())
 refine cf (α := Unit) (fun zz => (fun (u_ : Unit) => [(59,.v (.agg (am s).toArray)),(61,aI s.una),(62,aP g),(65,aI (K6.wrap ((af s) + 1)))]) zz) [0,2,3,4,5,59,61,62,65] 7 (bi 14 127) ?_ (fun hD10 => ?_)
 intro u_
 try dsimp only
 refine kA [7] <| eD 7 16 [gP g,iI (K6.wrap ((af s) + 1))] (some 66) 0 rfl rfl hlo (a5 (aq rfl a7)) (av hBw hap) ?_
 rintro ⟨y373,hy373⟩
 obtain ⟨hy3730,hy3731⟩ := hy373
 exact ao (kF 2 0 [0,2,3,4,5,59,61,66]) (by kernel_rfl) (hD4 ⟨(y373),⟨hy3730,hy3731⟩⟩)
 refine cf (α := {zz : Int // (fun (y373 : Int) => 0 ≤ y373 ∧ (0 < (K6.wrap ((af s) + 1)) → y373 < (K6.wrap ((af s) + 1)))) zz}) (fun zz => (fun (y373 : Int) => [(59,.v (.agg (am s).toArray)),(60,.p 1 0),(66,aI y373)]) zz.1) [0,2,3,4,5,59,60,66] 7 (bi 14 251) ?_ (fun hD11 => ?_)
 rintro ⟨y373,hy373⟩
 try dsimp only
 try dsimp only at hy373
 obtain ⟨hy3730,hy3731⟩ := hy373
 refine kA [2] <| e6 2 (aI s.una) rfl ?_
 exact ao (kF 2 0 [0,2,3,4,5,59,61,66]) (by kernel_rfl) (hD4 ⟨(y373),⟨hy3730,hy3731⟩⟩)
 refine cf (α := Unit) (fun zz => (fun (u_ : Unit) => [(59,.v (.agg (am s).toArray)),(60,.p 1 0),(62,aP g),(64,aI (af s))]) zz) [0,2,3,4,5,59,60,62,64] 9 (bi 14 59) ?_ (fun hD9 => ?_)
 intro u_
 try dsimp only
 refine d3 [6] [65,0,2,3,4,5,59,60,62] 8 [(65,aI (K6.wrap ((af s) + 1)))] <| kA [2,7] ⟨?_,?_⟩
 refine e6 2 (aI s.una) rfl ?_
 exact ao (kF 2 0 [0,2,3,4,5,59,61,62,65]) (by kernel_rfl) (hD10 ())
 refine eD 7 16 [gP g,iI (K6.wrap ((af s) + 1))] (some 66) 0 rfl rfl hlo (a5 (aq rfl a7)) (av hBw hap) ?_
 rintro ⟨y373,hy373⟩
 obtain ⟨hy3730,hy3731⟩ := hy373
 exact ao (kF 2 0 [0,2,3,4,5,59,60,66]) (by kernel_rfl) (hD11 ⟨(y373),⟨hy3730,hy3731⟩⟩)
 refine cf (α := Unit) (fun zz => (fun (u_ : Unit) => [(59,.v (.agg (am s).toArray)),(60,.p 1 0),(62,aP g),(63,.v (.agg (am s).toArray))]) zz) [0,2,3,4,5,59,60,62,63] 10 (bi 14 27) ?_ (fun hD8 => ?_)
 intro u_
 try dsimp only
 refine kA [2,5] ⟨?_,?_⟩
 refine e6 2 (aI s.una) rfl ?_
 exact ao (kF 2 0 [0,2,3,4,5,59,61,62,63]) (by kernel_rfl) (hD2 ())
 refine d8 5 71 [.agg (am s).toArray] (some 64) rfl (br fun ww hf => dY s.una s.data s.sent s.fin s.finSent s.done ww ) ?_
 intro _
 exact ao (kF 2 0 [0,2,3,4,5,59,60,62,64]) (by kernel_rfl) (hD9 ())
 refine cf (α := Unit) (fun zz => (fun (u_ : Unit) => [(59,.v (.agg (am s).toArray)),(60,.p 1 0),(62,aP g)]) zz) [0,2,3,4,5,59,60,62] 11 (bi 14 11) ?_ (fun hD0 => ?_)
 intro u_
 try dsimp only
 refine kA [2,4] ⟨?_,?_⟩
 refine e6 2 (aI s.una) rfl ?_
 exact ao (kF 2 0 [0,2,3,4,5,59,61,62]) (by kernel_rfl) (hD1 ())
 refine e6 4 (.v (.agg (am s).toArray)) rfl ?_
 exact ao (kF 2 0 [0,2,3,4,5,59,60,62,63]) (by kernel_rfl) (hD8 ())
 refine cf (α := {zz : Int // (fun (y373 : Int) => 0 ≤ y373 ∧ (0 < (K6.wrap ((af s) + 1)) → y373 < (K6.wrap ((af s) + 1)))) zz}) (fun zz => (fun (y373 : Int) => [(67,aI (sA s.una y373))]) zz.1) [0,2,3,4,5,67] 6 (bi 14 510) ?_ (fun hD16 => ?_)
 rintro ⟨y373,hy373⟩
 try dsimp only
 try dsimp only at hy373
 obtain ⟨hy3730,hy3731⟩ := hy373
 refine kA [0] <| e6 0 (.v (.agg (am s).toArray)) rfl ?_
 exact ao (kF 2 0 [0,2,3,4,5,59,67]) (by kernel_rfl) (hD5 ⟨(y373),⟨hy3730,hy3731⟩⟩)
 refine cf (α := {zz : Int // (fun (y373 : Int) => 0 ≤ y373 ∧ (0 < (K6.wrap ((af s) + 1)) → y373 < (K6.wrap ((af s) + 1)))) zz}) (fun zz => (fun (y373 : Int) => [(61,aI s.una),(66,aI y373)]) zz.1) [0,2,3,4,5,61,66] 7 (bi 14 254) ?_ (fun hD15 => ?_)
 rintro ⟨y373,hy373⟩
 try dsimp only
 try dsimp only at hy373
 obtain ⟨hy3730,hy3731⟩ := hy373
 refine kA [0,8] ⟨?_,?_⟩
 refine e6 0 (.v (.agg (am s).toArray)) rfl ?_
 exact ao (kF 2 0 [0,2,3,4,5,59,61,66]) (by kernel_rfl) (hD4 ⟨(y373),⟨hy3730,hy3731⟩⟩)
 refine d8 8 56 [iI s.una,iI y373] (some 67) rfl (bF fun ww hf => bk s.una y373 ww ) ?_
 intro _
 exact ao (kF 2 0 [0,2,3,4,5,67]) (by kernel_rfl) (hD16 ⟨(y373),⟨hy3730,hy3731⟩⟩)
 refine cf (α := Unit) (fun zz => (fun (u_ : Unit) => [(61,aI s.una),(62,aP g),(64,aI (af s))]) zz) [0,2,3,4,5,61,62,64] 9 (bi 14 62) ?_ (fun hD14 => ?_)
 intro u_
 try dsimp only
 refine d3 [6] [65,0,2,3,4,5,61,62] 8 [(65,aI (K6.wrap ((af s) + 1)))] <| kA [0,7] ⟨?_,?_⟩
 refine e6 0 (.v (.agg (am s).toArray)) rfl ?_
 exact ao (kF 2 0 [0,2,3,4,5,59,61,62,65]) (by kernel_rfl) (hD10 ())
 refine eD 7 16 [gP g,iI (K6.wrap ((af s) + 1))] (some 66) 0 rfl rfl hlo (a5 (aq rfl a7)) (av hBw hap) ?_
 rintro ⟨y373,hy373⟩
 obtain ⟨hy3730,hy3731⟩ := hy373
 exact ao (kF 2 0 [0,2,3,4,5,61,66]) (by kernel_rfl) (hD15 ⟨(y373),⟨hy3730,hy3731⟩⟩)
 refine cf (α := Unit) (fun zz => (fun (u_ : Unit) => [(61,aI s.una),(62,aP g),(63,.v (.agg (am s).toArray))]) zz) [0,2,3,4,5,61,62,63] 10 (bi 14 30) ?_ (fun hD13 => ?_)
 intro u_
 try dsimp only
 refine kA [0,5] ⟨?_,?_⟩
 refine e6 0 (.v (.agg (am s).toArray)) rfl ?_
 exact ao (kF 2 0 [0,2,3,4,5,59,61,62,63]) (by kernel_rfl) (hD2 ())
 refine d8 5 71 [.agg (am s).toArray] (some 64) rfl (br fun ww hf => dY s.una s.data s.sent s.fin s.finSent s.done ww ) ?_
 intro _
 exact ao (kF 2 0 [0,2,3,4,5,61,62,64]) (by kernel_rfl) (hD14 ())
 refine cf (α := Unit) (fun zz => (fun (u_ : Unit) => [(61,aI s.una),(62,aP g)]) zz) [0,2,3,4,5,61,62] 11 (bi 14 14) ?_ (fun hD12 => ?_)
 intro u_
 try dsimp only
 refine kA [0,4] ⟨?_,?_⟩
 refine e6 0 (.v (.agg (am s).toArray)) rfl ?_
 exact ao (kF 2 0 [0,2,3,4,5,59,61,62]) (by kernel_rfl) (hD1 ())
 refine e6 4 (.v (.agg (am s).toArray)) rfl ?_
 exact ao (kF 2 0 [0,2,3,4,5,61,62,63]) (by kernel_rfl) (hD13 ())
 refine cf (α := Unit) (fun zz => (fun (u_ : Unit) => [(59,.v (.agg (am s).toArray)),(60,.p 1 0),(62,aP g),(65,aI (K6.wrap ((af s) + 1)))]) zz) [0,2,3,4,5,59,60,62,65] 8 (bi 14 123) ?_ (fun hD19 => ?_)
 intro u_
 try dsimp only
 refine kA [2,7] ⟨?_,?_⟩
 refine e6 2 (aI s.una) rfl ?_
 exact ao (kF 2 0 [0,2,3,4,5,59,61,62,65]) (by kernel_rfl) (hD10 ())
 refine eD 7 16 [gP g,iI (K6.wrap ((af s) + 1))] (some 66) 0 rfl rfl hlo (a5 (aq rfl a7)) (av hBw hap) ?_
 rintro ⟨y373,hy373⟩
 obtain ⟨hy3730,hy3731⟩ := hy373
 exact ao (kF 2 0 [0,2,3,4,5,59,60,66]) (by kernel_rfl) (hD11 ⟨(y373),⟨hy3730,hy3731⟩⟩)
 refine cf (α := Unit) (fun zz => (fun (u_ : Unit) => [(61,aI s.una),(62,aP g),(65,aI (K6.wrap ((af s) + 1)))]) zz) [0,2,3,4,5,61,62,65] 8 (bi 14 126) ?_ (fun hD20 => ?_)
 intro u_
 try dsimp only
 refine kA [0,7] ⟨?_,?_⟩
 refine e6 0 (.v (.agg (am s).toArray)) rfl ?_
 exact ao (kF 2 0 [0,2,3,4,5,59,61,62,65]) (by kernel_rfl) (hD10 ())
 refine eD 7 16 [gP g,iI (K6.wrap ((af s) + 1))] (some 66) 0 rfl rfl hlo (a5 (aq rfl a7)) (av hBw hap) ?_
 rintro ⟨y373,hy373⟩
 obtain ⟨hy3730,hy3731⟩ := hy373
 exact ao (kF 2 0 [0,2,3,4,5,61,66]) (by kernel_rfl) (hD15 ⟨(y373),⟨hy3730,hy3731⟩⟩)
 refine cf (α := {zz : Int // (fun (y373 : Int) => 0 ≤ y373 ∧ (0 < (K6.wrap ((af s) + 1)) → y373 < (K6.wrap ((af s) + 1)))) zz}) (fun zz => (fun (y373 : Int) => [(60,.p 1 0),(66,aI y373)]) zz.1) [0,2,3,4,5,60,66] 8 (bi 14 250) ?_ (fun hD21 => ?_)
 rintro ⟨y373,hy373⟩
 try dsimp only
 try dsimp only at hy373
 obtain ⟨hy3730,hy3731⟩ := hy373
 refine kA [0,2] ⟨?_,?_⟩
 refine e6 0 (.v (.agg (am s).toArray)) rfl ?_
 exact ao (kF 2 0 [0,2,3,4,5,59,60,66]) (by kernel_rfl) (hD11 ⟨(y373),⟨hy3730,hy3731⟩⟩)
 refine e6 2 (aI s.una) rfl ?_
 exact ao (kF 2 0 [0,2,3,4,5,61,66]) (by kernel_rfl) (hD15 ⟨(y373),⟨hy3730,hy3731⟩⟩)
 refine cf (α := Unit) (fun zz => (fun (u_ : Unit) => [(60,.p 1 0),(62,aP g),(64,aI (af s))]) zz) [0,2,3,4,5,60,62,64] 10 (bi 14 58) ?_ (fun hD18 => ?_)
 intro u_
 try dsimp only
 refine d3 [6] [65,0,2,3,4,5,60,62] 9 [(65,aI (K6.wrap ((af s) + 1)))] <| kA [0,2,7] ⟨?_,?_,?_⟩
 refine e6 0 (.v (.agg (am s).toArray)) rfl ?_
 exact ao (kF 2 0 [0,2,3,4,5,59,60,62,65]) (by kernel_rfl) (hD19 ())
 refine e6 2 (aI s.una) rfl ?_
 exact ao (kF 2 0 [0,2,3,4,5,61,62,65]) (by kernel_rfl) (hD20 ())
 refine eD 7 16 [gP g,iI (K6.wrap ((af s) + 1))] (some 66) 0 rfl rfl hlo (a5 (aq rfl a7)) (av hBw hap) ?_
 rintro ⟨y373,hy373⟩
 obtain ⟨hy3730,hy3731⟩ := hy373
 exact ao (kF 2 0 [0,2,3,4,5,60,66]) (by kernel_rfl) (hD21 ⟨(y373),⟨hy3730,hy3731⟩⟩)
 refine cf (α := Unit) (fun zz => (fun (u_ : Unit) => [(60,.p 1 0),(62,aP g),(63,.v (.agg (am s).toArray))]) zz) [0,2,3,4,5,60,62,63] 11 (bi 14 26) ?_ (fun hD17 => ?_)
 intro u_
 try dsimp only
 refine kA [0,2,5] ⟨?_,?_,?_⟩
 refine e6 0 (.v (.agg (am s).toArray)) rfl ?_
 exact ao (kF 2 0 [0,2,3,4,5,59,60,62,63]) (by kernel_rfl) (hD8 ())
 refine e6 2 (aI s.una) rfl ?_
 exact ao (kF 2 0 [0,2,3,4,5,61,62,63]) (by kernel_rfl) (hD13 ())
 refine d8 5 71 [.agg (am s).toArray] (some 64) rfl (br fun ww hf => dY s.una s.data s.sent s.fin s.finSent s.done ww ) ?_
 intro _
 exact ao (kF 2 0 [0,2,3,4,5,60,62,64]) (by kernel_rfl) (hD18 ())
 refine d3 [1,3] [62,60,0,2,3,4,5] 12 [(62,aP g),(60,.p 1 0)] <| kA [0,2,4] ⟨?_,?_,?_⟩
 refine e6 0 (.v (.agg (am s).toArray)) rfl ?_
 exact ao (kF 2 0 [0,2,3,4,5,59,60,62]) (by kernel_rfl) (hD0 ())
 refine e6 2 (aI s.una) rfl ?_
 exact ao (kF 2 0 [0,2,3,4,5,61,62]) (by kernel_rfl) (hD12 ())
 refine e6 4 (.v (.agg (am s).toArray)) rfl ?_
 exact ao (kF 2 0 [0,2,3,4,5,60,62,63]) (by kernel_rfl) (hD17 ())
 have h21p := cI h21
 refine kG <| dK 3 [0,2,3,4,5,22] [(22,aB s.fin)] <| kP 22 (s.fin) (fun h723 => ?_) (fun h723 => ?_)
 refine ba [0,2,3,4,5] [] 1 ⟨43,am { s with fin := true }⟩ ?_
 exact ⟨⟨({ s with fin := true }),⟨⟩⟩,kF 2 0 [0,2,3,4,5]⟩
 refine d2 1 [0,2,3,4,5,22,23] [(22,aB false),(23,aP g)] 26 [gP g,iI 2] (some 24) 0 rfl rfl hlo (bo hBw hap) ?_
 rintro ⟨y724,hy724⟩
 refine ba [0,2,3,4,5] [] 1 ⟨43,am { s with fin := y724 }⟩ ?_
 exact ⟨⟨({ s with fin := y724 }),⟨⟩⟩,kF 2 0 [0,2,3,4,5]⟩
 rintro ⟨s2,-⟩
 try dsimp only
 refine kG <| dK 3 [0,2,3,4,5] [(5,aI (K6.wrap ((i : Int) + 1)))] <| cJ [0,2,3,4,5] [(5,aI (K6.wrap ((i : Int) + 1)))] [(5,aI ((i : Int) + 1))] (by rw [show (K6.wrap ((i : Int) + 1)) = ((i : Int) + 1) from al (by omega) (by omega)]) (by kernel_rfl) ?_
 refine aU [0,2,3,4,5] [] ?_
 exact ⟨⟨(i + 1,s2),(by omega)⟩,kF 2 0 [0,2,3,4,5],by show (fun (i : Nat) (s : Snd) => (y2).toNat - i) (i + 1) s2 < (y2).toNat - i; (dsimp only; omega)⟩
 have h3p := of_decide_eq_false h3
 have hge : ¬ (i : Int) < y2 := of_decide_eq_false h3
 refine c5 <| kQ <| ba [2] [(2,.p 0 0)] 0 ⟨43,am s⟩ <| kR ?_
 exact ⟨[.agg (am s).toArray],by kernel_rfl,fun w' hb hf => ⟨⟨s,trivial⟩,rfl,hf (cF B g A J cap) (by simp),ar (hf (bd w (fun b => b = g)) (by simp)) hb rfl rfl rfl⟩⟩
theorem l17Sender_c_K {g : Nat} {J : List Int} {A : Option Addr} {cap : Nat}  {w0 : World} {fs : List Fact} {B : Nat} (hB : B ≤ w0.heap.size) (hap : ¬ (sQ A J cap).blk g)  (hn : J.length ≤ 1048576 := by omega) (h1 : cF B g A J cap ∈ fs := by simp) (h2 : sQ A J cap ∈ fs := by simp) : XCM Try.prog w0 fs (cF B g A J cap).blk 46 [gP g] (α := {y : Snd // True}) (fun y => .agg (am y.1).toArray) (fun _ => [cF B g A J cap]) := cE fun w hw hf => l17Sender_c g J A cap  w B (Nat.le_trans hB hw) (hf _ h1) (hf _ h2) hap hn  
theorem l17Bent_c (g : Nat) (J : List Int) (A : Option Addr) (cap : Nat)  (w : World) (B : Nat) (hB : B ≤ w.heap.size) (hc : (cF B g A J cap).p w) (hl : Sl w (sJ A J cap) 1 (J.map bR)) (hap : ¬ (sQ A J cap).blk g) (hn : J.length ≤ 1048576)  : Calls Try.prog 28 #[gP g] w fun e w' => ∃ y : {y : Snd // True}, e = .returned (.agg (am y.1).toArray) ∧ (cF B g A J cap).p w' ∧ Chgd (fun b => b = g) w w' := by
 have hq_code := Sl.capLe hl
 have hBw : B ≤ (aw w B).heap.size := Nat.le_of_eq (aW hB).symm
 have hlo : ∀ (ww : World) (b : Nat),(cF B g A J cap).p ww → (cF B g A J cap).blk b → (aw w B).heap.size ≤ b := fun ww b h hb => Nat.le_trans (bC w B) (cQ h hb)
 refine ci (args := [gP g]) (fn := Try.f28) [cF B g A J cap,sQ A J cap,bd w (fun b => b = g)] B Try.func28 rfl Try.ntmps28 rfl hB (by simp only [List.mem_cons,List.not_mem_nil,or_false,forall_eq_or_imp,forall_eq]; exact ⟨hc,hl,bn w _⟩) (bX hap rfl) ?_
 refine kQ <| cv [0,2] ⟨[(0,aP g),(2,.p 0 0)],[⟨43,sndZ⟩],[],[cF B g A J cap,sQ A J cap,bd w (fun b => b = g)]⟩ <| kQ <| d2 1 [0,2,4] [(4,aP g)] 46 [gP g] (some 5) 0 rfl rfl hlo (l17Sender_c_K hBw hap) ?_
 rintro ⟨y1,hy1⟩
 refine kEA [0,2,3] [(3,.p 1 0)] [⟨43,am y1⟩] <| kS <| kQ <| d2 1 [0,2,3,6] [(6,aP g)] 16 [gP g,iI 10] (some 7) 0 rfl rfl hlo (av hBw hap) ?_
 rintro ⟨y2,hy2⟩
 obtain ⟨hy20,hy21⟩ := hy2
 refine aU [0,2,3,7] [] <| aj <| kQ <| aU [0,2,3,7,8] [(8,aB (y2 == 0))] ?_
 refine kC (y2 == 0) (fun h3 => ?_) (fun h3 => ?_)
 have h3p := cN h3
 refine kG <| d2 1 [2,3,10] [(10,aP g)] 47 [gP g] (some 11) 0 rfl rfl hlo (eZ hBw hap) ?_
 rintro ⟨y4,hy4⟩
 refine ba [2,3] [] 1 ⟨43,am { y1 with una := y4 }⟩ <| kQ <| ba [2] [(2,.p 0 0)] 0 ⟨43,am { y1 with una := y4 }⟩ <| kR ?_
 exact ⟨[.agg (am { y1 with una := y4 }).toArray],by kernel_rfl,fun w' hb hf => ⟨⟨{ y1 with una := y4 },trivial⟩,rfl,hf (cF B g A J cap) (by simp),ar (hf (bd w (fun b => b = g)) (by simp)) hb rfl rfl rfl⟩⟩
 have h3p := cI h3
 refine kQ <| aU [0,2,3,7,13] [(13,aB (y2 == 1))] <| kC (y2 == 1) (fun h5 => ?_) (fun h5 => ?_)
 have h5p := cN h5
 refine kG <| kHD 5 [2,3,15,19] [(15,aP g),(19,aI (K6.wrap ((y1.data.size : Int) + 1)))] rfl (aQ (e := 3) (K := 1) (bytes := 8) [iI (-1),iI 0,iI 48,iI 49,iI (K6.wrap ((y1.data.size : Int) + 1))] (rs := ([(-1),0,48,49,K6.wrap ((y1.data.size : Int) + 1)] : List Int).map az) rfl rfl) ?_
 intro g6
 refine dj (φ := ¬ (bz (.slice (some ⟨g6,0,none⟩) 5 5) 1 (([(-1),0,48,49,K6.wrap ((y1.data.size : Int) + 1)] : List Int).map az)).blk g) (fun _ _ _ _ hr => fun hb => hr.2.apart 0 1 (a9 (aw w B).heap.size 3 1 (.slice (some ⟨g6,0,none⟩) 5 5) (([(-1),0,48,49,K6.wrap ((y1.data.size : Int) + 1)] : List Int).map az)) (cF B g A J cap) rfl rfl (by decide) rfl g (bf hb) rfl) (fun hk7 => ?_)
 refine d2 0 [2,3,15,20] [] 19 [gP g,.slice (some ⟨g6,0,none⟩) 5 5] (some 21) 1 rfl rfl hlo (aL hBw hap (fun ww hw hf => (au (hf _ m0))) hk7 (by simp)) ?_
 rintro ⟨y8,hy8⟩
 refine ba [2,3] [] 1 ⟨43,am { y1 with sent := y8 }⟩ <| kQ <| ba [2] [(2,.p 0 0)] 0 ⟨43,am { y1 with sent := y8 }⟩ <| kR ?_
 exact ⟨[.agg (am { y1 with sent := y8 }).toArray],by kernel_rfl,fun w' hb hf => ⟨⟨{ y1 with sent := y8 },trivial⟩,rfl,hf (cF B g A J cap) (by simp),ar (hf (bd w (fun b => b = g)) (by simp)) hb rfl rfl rfl⟩⟩
 have h5p := cI h5
 refine kQ <| aU [0,2,3,7,23] [(23,aB (y2 == 2))] <| kC (y2 == 2) (fun h9 => ?_) (fun h9 => ?_)
 have h9p := cN h9
 refine kG <| ba [2,3] [] 1 ⟨43,am { y1 with finSent := !y1.finSent }⟩ <| kQ <| ba [2] [(2,.p 0 0)] 0 ⟨43,am { y1 with finSent := !y1.finSent }⟩ ?_
 refine kR ?_
 exact ⟨[.agg (am { y1 with finSent := !y1.finSent }).toArray],by kernel_rfl,fun w' hb hf => ⟨⟨{ y1 with finSent := !y1.finSent },trivial⟩,rfl,hf (cF B g A J cap) (by simp),ar (hf (bd w (fun b => b = g)) (by simp)) hb rfl rfl rfl⟩⟩
 have h9p := cI h9
 refine kQ <| aU [0,2,3,7,29] [(29,aB (y2 == 3))] <| kC (y2 == 3) (fun h10 => ?_) (fun h10 => ?_)
 have h10p := cN h10
 refine kG <| ba [2,3] [] 1 ⟨43,am { y1 with done := !y1.done }⟩ <| kQ <| ba [2] [(2,.p 0 0)] 0 ⟨43,am { y1 with done := !y1.done }⟩ ?_
 refine kR ?_
 exact ⟨[.agg (am { y1 with done := !y1.done }).toArray],by kernel_rfl,fun w' hb hf => ⟨⟨{ y1 with done := !y1.done },trivial⟩,rfl,hf (cF B g A J cap) (by simp),ar (hf (bd w (fun b => b = g)) (by simp)) hb rfl rfl rfl⟩⟩
 have h10p := cI h10
 refine kQ <| aU [0,2,3,35] [(35,aB (y2 == 4))] <| kC (y2 == 4) (fun h11 => ?_) (fun h11 => ?_)
 have h11p := cN h11
 refine kG <| d2 1 [2,3,37] [(37,aP g)] 16 [gP g,iI 3] (some 38) 0 rfl rfl hlo (av hBw hap) ?_
 rintro ⟨y12,hy12⟩
 obtain ⟨hy120,hy121⟩ := hy12
 refine em 1 [2,3,39] [(2,.p 0 0),(3,.p 1 0),(39,aI (K6.wrap (47 + y12)))] 48 [iI (K6.wrap (47 + y12))] (some 40) rfl (br fun ww hf => l5Long_c (K6.wrap (47 + y12)) ww (by first | omega | (rw [al (by omega) (by omega)]; omega))) ?_
 intro _
 refine ba [2,3] [] 1 ⟨43,am { y1 with data := ai (List.replicate ((K6.wrap (47 + y12))).toNat 0) }⟩ <| kQ <| ba [2] [(2,.p 0 0)] 0 ⟨43,am { y1 with data := ai (List.replicate ((K6.wrap (47 + y12))).toNat 0) }⟩ <| kR ?_
 exact ⟨[.agg (am { y1 with data := ai (List.replicate ((K6.wrap (47 + y12))).toNat 0) }).toArray],by kernel_rfl,fun w' hb hf => ⟨⟨{ y1 with data := ai (List.replicate ((K6.wrap (47 + y12))).toNat 0) },trivial⟩,rfl,hf (cF B g A J cap) (by simp),ar (hf (bd w (fun b => b = g)) (by simp)) hb rfl rfl rfl⟩⟩
 have h11p := cI h11
 refine kK <| kQ <| ba [2] [(2,.p 0 0)] 0 ⟨43,am y1⟩ <| kR ?_
 exact ⟨[.agg (am y1).toArray],by kernel_rfl,fun w' hb hf => ⟨⟨y1,trivial⟩,rfl,hf (cF B g A J cap) (by simp),ar (hf (bd w (fun b => b = g)) (by simp)) hb rfl rfl rfl⟩⟩
theorem l17Bent_c_K {g : Nat} {J : List Int} {A : Option Addr} {cap : Nat}  {w0 : World} {fs : List Fact} {B : Nat} (hB : B ≤ w0.heap.size) (hap : ¬ (sQ A J cap).blk g)  (hn : J.length ≤ 1048576 := by omega) (h1 : cF B g A J cap ∈ fs := by simp) (h2 : sQ A J cap ∈ fs := by simp) : XCM Try.prog w0 fs (cF B g A J cap).blk 28 [gP g] (α := {y : Snd // True}) (fun y => .agg (am y.1).toArray) (fun _ => [cF B g A J cap]) := cE fun w hw hf => l17Bent_c g J A cap  w B (Nat.le_trans hB hw) (hf _ h1) (hf _ h2) hap hn  
theorem l4Near_c (g : Nat) (J : List Int) (A : Option Addr) (cap : Nat) (x : Int) (w : World) (B : Nat) (hB : B ≤ w.heap.size) (hc : (cF B g A J cap).p w) (hl : Sl w (sJ A J cap) 1 (J.map bR)) (hap : ¬ (sQ A J cap).blk g) (hn : J.length ≤ 1048576)  : Calls Try.prog 73 #[gP g, iI x] w fun e w' => ∃ y : {y : Int // True}, e = .returned (iI y.1) ∧ (cF B g A J cap).p w' ∧ Chgd (fun b => b = g) w w' := by
 have hq_code := Sl.capLe hl
 have hBw : B ≤ (aw w B).heap.size := Nat.le_of_eq (aW hB).symm
 have hlo : ∀ (ww : World) (b : Nat),(cF B g A J cap).p ww → (cF B g A J cap).blk b → (aw w B).heap.size ≤ b := fun ww b h hb => Nat.le_trans (bC w B) (cQ h hb)
 refine ci (args := [gP g,iI x]) (fn := Try.f73) [cF B g A J cap,sQ A J cap,bd w (fun b => b = g)] B Try.func73 rfl Try.ntmps73 rfl hB (by simp only [List.mem_cons,List.not_mem_nil,or_false,forall_eq_or_imp,forall_eq]; exact ⟨hc,hl,bn w _⟩) (bX hap rfl) ?_
 refine kQ <| cv [0,1] ⟨[(0,aP g),(1,aI x)],[],[],[cF B g A J cap,sQ A J cap,bd w (fun b => b = g)]⟩ <| kS <| kQ <| d2 1 [0,1,5] [(5,aP g)] 16 [gP g,iI 4] (some 6) 0 rfl rfl hlo (av hBw hap) ?_
 rintro ⟨y1,hy1⟩
 obtain ⟨hy10,hy11⟩ := hy1
 refine aU [0,1,6] [] <| aj <| kQ <| aU [0,1,6,7] [(7,aB (y1 == 0))] ?_
 refine kC (y1 == 0) (fun h2 => ?_) (fun h2 => ?_)
 have h2p := cN h2
 refine kQ <| kWS 1 [9] [(9,aP g)] 97 [gP g] (some 10) 0 rfl rfl hlo (l4Place_c_K hBw hap) ?_
 rintro ⟨y3,hy3⟩
 refine aD [4] [(4,aI y3)] <| kR ?_
 exact ⟨[iI y3],by kernel_rfl,fun w' hb hf => ⟨⟨y3,trivial⟩,rfl,hf (cF B g A J cap) (by simp),ar (hf (bd w (fun b => b = g)) (by simp)) hb rfl rfl rfl⟩⟩
 have h2p := cI h2
 refine kQ <| aU [0,1,11] [(11,aB (y1 == 1))] <| kC (y1 == 1) (fun h4 => ?_) (fun h4 => ?_)
 have h4p := cN h4
 refine kQ <| kHS 2 [13,14] [(13,aI x),(14,aP g)] rfl (aQ (e := 3) (K := 1) (bytes := 8) [iI 2147483647,iI 2147483648,iI (-1),iI 1,iI 0] (rs := ([2147483647,2147483648,(-1),1,0] : List Int).map az) rfl rfl) ?_
 intro g5
 refine dj (φ := ¬ (bz (.slice (some ⟨g5,0,none⟩) 5 5) 1 (([2147483647,2147483648,(-1),1,0] : List Int).map az)).blk g) (fun _ _ _ _ hr => fun hb => hr.2.apart 0 1 (a9 (aw w B).heap.size 3 1 (.slice (some ⟨g5,0,none⟩) 5 5) (([2147483647,2147483648,(-1),1,0] : List Int).map az)) (cF B g A J cap) rfl rfl (by decide) rfl g (bf hb) rfl) (fun hk6 => ?_)
 refine d2 0 [13,14,15] [] 19 [gP g,.slice (some ⟨g5,0,none⟩) 5 5] (some 16) 1 rfl rfl hlo (aL hBw hap (fun ww hw hf => (au (hf _ m0))) hk6 (by simp)) ?_
 rintro ⟨y7,hy7⟩
 refine dZ 0 [13,16] [] 56 [iI x,iI y7] (some 17) rfl (bF fun ww hf => bk x y7 ww ) ?_
 intro _
 refine aD [4] [(4,aI (sA x y7))] <| kR ?_
 exact ⟨[iI (sA x y7)],by kernel_rfl,fun w' hb hf => ⟨⟨sA x y7,trivial⟩,rfl,hf (cF B g A J cap) (by simp),ar (hf (bd w (fun b => b = g)) (by simp)) hb rfl rfl rfl⟩⟩
 have h4p := cI h4
 refine kK <| kQ <| kWS 2 [18,19] [(18,aI x),(19,aP g)] 16 [gP g,iI 41] (some 20) 0 rfl rfl hlo (av hBw hap) ?_
 rintro ⟨y8,hy8⟩
 obtain ⟨hy80,hy81⟩ := hy8
 refine dZ 1 [18,21] [(21,aI (K6.wrap (y8 - 20)))] 56 [iI x,iI (K6.wrap (y8 - 20))] (some 22) rfl (bF fun ww hf => bk x (K6.wrap (y8 - 20)) ww ) ?_
 intro _
 refine aD [4] [(4,aI (sA x (K6.wrap (y8 - 20))))] <| kR ?_
 exact ⟨[iI (sA x (K6.wrap (y8 - 20)))],by kernel_rfl,fun w' hb hf => ⟨⟨sA x (K6.wrap (y8 - 20)),trivial⟩,rfl,hf (cF B g A J cap) (by simp),ar (hf (bd w (fun b => b = g)) (by simp)) hb rfl rfl rfl⟩⟩
theorem l4Near_c_K {g : Nat} {J : List Int} {A : Option Addr} {cap : Nat} {x : Int} {w0 : World} {fs : List Fact} {B : Nat} (hB : B ≤ w0.heap.size) (hap : ¬ (sQ A J cap).blk g)  (hn : J.length ≤ 1048576 := by omega) (h1 : cF B g A J cap ∈ fs := by simp) (h2 : sQ A J cap ∈ fs := by simp) : XCM Try.prog w0 fs (cF B g A J cap).blk 73 [gP g, iI x] (α := {y : Int // True}) (fun y => iI y.1) (fun _ => [cF B g A J cap]) := cE fun w hw hf => l4Near_c g J A cap x w B (Nat.le_trans hB hw) (hf _ h1) (hf _ h2) hap hn  
theorem l19Segment_c (g : Nat) (J : List Int) (A : Option Addr) (cap : Nat) (x : Con) (xV : Value) (w : World) (B : Nat) (hB : B ≤ w.heap.size) (hc : (cF B g A J cap).p w) (hl : Sl w (sJ A J cap) 1 (J.map bR)) (hap : ¬ (sQ A J cap).blk g) (hn : J.length ≤ 1048576)  : Calls Try.prog 44 #[gP g, .agg (a6 x xV).toArray] w fun e w' => ∃ y : {y : Seg // y.body.size ≤ 4096}, e = .returned (.agg (bE y.1).toArray) ∧ (cF B g A J cap).p w' ∧ Chgd (fun b => b = g) w w' := by
 have hq_code := Sl.capLe hl
 have hBw : B ≤ (aw w B).heap.size := Nat.le_of_eq (aW hB).symm
 have hlo : ∀ (ww : World) (b : Nat),(cF B g A J cap).p ww → (cF B g A J cap).blk b → (aw w B).heap.size ≤ b := fun ww b h hb => Nat.le_trans (bC w B) (cQ h hb)
 refine ci (args := [gP g,.agg (a6 x xV).toArray]) (fn := Try.f44) [cF B g A J cap,sQ A J cap,bd w (fun b => b = g)] B Try.func44 rfl Try.ntmps44 rfl hB (by simp only [List.mem_cons,List.not_mem_nil,or_false,forall_eq_or_imp,forall_eq]; exact ⟨hc,hl,bn w _⟩) (bX hap rfl) ?_
 refine kQ <| cv [0,3,4] ⟨[(0,aP g),(3,.p 0 0),(4,.p 1 0)],[⟨50,a6 x xV⟩,⟨85,eb⟩],[],[cF B g A J cap,sQ A J cap,bd w (fun b => b = g)]⟩ <| kQ <| d2 3 [0,3,4,10,12] [(10,aP g),(12,.v (.agg (ab x.r xV).toArray))] 70 [gP g,.agg (ab x.r xV).toArray] (some 13) 0 rfl rfl hlo (l18Stream_c_K hBw hap) ?_
 rintro ⟨y1,hy1⟩
 refine aU [0,3,4,5,6,7] [(5,aI y1.1),(6,.v (.string y1.2.1)),(7,aB y1.2.2)] <| kS <| d9 (α := {zz : Int // (fun (sq : Int) => True) zz}) (fun zz => (fun (sq : Int) => (⟨[(0,aP g),(3,.p 0 0),(4,.p 1 0),(5,aI sq),(6,.v (.string y1.2.1)),(7,aB y1.2.2)],[⟨50,a6 x xV⟩,⟨85,eb⟩],[],[cF B g A J cap,sQ A J cap,bd w (fun b => b = g)]⟩ : St)) zz.1) ?_ ?_
 refine kQ <| d2 1 [0,3,4,5,6,7,17] [(17,aP g)] 26 [gP g,iI 2] (some 18) 0 rfl rfl hlo (bo hBw hap) ?_
 rintro ⟨y2,hy2⟩
 refine aU [0,3,4,5,6,7,18] [] <| kC (y2) (fun h3 => ?_) (fun h3 => ?_)
 refine kG <| aU [0,3,4,5,6,7] [(5,aI x.r.next)] ?_
 exact ⟨⟨(x.r.next),⟨⟩⟩,kF 2 0 [0,3,4,5,6,7]⟩
 refine kK ?_
 exact ⟨⟨(y1.1),⟨⟩⟩,kF 2 0 [0,3,4,5,6,7]⟩
 rintro ⟨sq,-⟩
 try dsimp only
 refine kS <| bw [] (by kernel_rfl) (fun ρ σ => ?_)
 refine bc (α := {zz : Int × Nat × Int // (fun (y755 : Int) (g905 : Nat) (y956 : Int) => 0 ≤ y755 ∧ (0 < (K6.wrap ((af x.s) + 1)) → y755 < (K6.wrap ((af x.s) + 1)))) zz.1 zz.2.1 zz.2.2}) (fun zz => (fun (y755 : Int) (g905 : Nat) (y956 : Int) => [(8,.p 2 0)]) zz.1.1 zz.1.2.1 zz.1.2.2) [0,3,4,7,8] (fun zz => (fun (y755 : Int) (g905 : Nat) (y956 : Int) => [⟨85,[iI x.t.port,iI x.t.my,iI sq,iI (sA x.s.una y755),iI 16,iI y956,iI 0,iI (-1),.bool false,.bool false,iI 0,iI 0,.string y1.2.1]⟩]) zz.1.1 zz.1.2.1 zz.1.2.2) (fun zz => (fun (y755 : Int) (g905 : Nat) (y956 : Int) => [a9 (aw w B).heap.size 3 1 (.slice (some ⟨g905,0,none⟩) 5 5) (([0,1,8,64,65535] : List Int).map az)]) zz.1.1 zz.1.2.1 zz.1.2.2) 0 (bi 25 33554431) ?_ (fun hD7 => ?_)
 rintro ⟨⟨y755,g905,y956⟩,hy755⟩
 dsimp only [List.cons_append,List.nil_append]
 try dsimp only at hy755
 obtain ⟨hy7550,hy7551⟩ := hy755
 refine kZ <| kS <| d9 (α := {zz : Seg // (fun (sg : Seg) => sg.body.size ≤ 4096) zz}) (fun zz => (fun (sg : Seg) => (⟨[(0,aP g),(3,.p 0 0),(4,.p 1 0),(8,.p 2 0)],[⟨50,a6 x xV⟩,⟨85,eb⟩,⟨85,bE sg⟩],[],[cF B g A J cap,sQ A J cap,bd w (fun b => b = g),a9 (aw w B).heap.size 3 1 (.slice (some ⟨g905,0,none⟩) 5 5) (([0,1,8,64,65535] : List Int).map az)]⟩ : St)) zz.1) ?_ ?_
 refine kQ <| aU [0,3,4,8,45] [(45,aB y1.2.2)] <| kC (y1.2.2) (fun h1258 => ?_) (fun h1258 => ?_)
 refine kG <| ba [0,3,4,8] [] 2 ⟨85,[iI x.t.port,iI x.t.my,iI sq,iI (sA x.s.una y755),iI 17,iI y956,iI 0,iI (-1),.bool false,.bool false,iI 0,iI 0,.string y1.2.1]⟩ ?_
 exact ⟨⟨(⟨x.t.port,x.t.my,sq,sA x.s.una y755,17,y956,⟨0,(-1),false,false,0,0⟩,y1.2.1⟩),(by first | assumption | (dsimp only; assumption) | exact Nat.zero_le _)⟩,kF 3 0 [0,3,4,8]⟩
 refine kK ?_
 exact ⟨⟨(⟨x.t.port,x.t.my,sq,sA x.s.una y755,16,y956,⟨0,(-1),false,false,0,0⟩,y1.2.1⟩),(by first | assumption | (dsimp only; assumption) | exact Nat.zero_le _)⟩,kF 3 0 [0,3,4,8]⟩
 rintro ⟨sg,hsg⟩
 try dsimp only
 try dsimp only at hsg
 refine kS <| d9 (α := {zz : Seg // (fun (sh : Seg) => sh.body.size ≤ 4096) zz}) (fun zz => (fun (sh : Seg) => (⟨[(4,.p 1 0),(8,.p 2 0)],[⟨50,a6 x xV⟩,⟨85,eb⟩,⟨85,bE sh⟩],[],[cF B g A J cap,sQ A J cap,bd w (fun b => b = g),a9 (aw w B).heap.size 3 1 (.slice (some ⟨g905,0,none⟩) 5 5) (([0,1,8,64,65535] : List Int).map az)]⟩ : St)) zz.1) ?_ ?_
 refine kQ <| d2 1 [0,3,4,8,50] [(50,aP g)] 16 [gP g,iI 10] (some 51) 0 rfl rfl hlo (av hBw hap) ?_
 rintro ⟨y1259,hy1259⟩
 obtain ⟨hy12590,hy12591⟩ := hy1259
 refine aU [0,3,4,8,51] [] <| aj <| kQ <| aU [0,3,4,8,51,52] [(52,aB (y1259 == 0))] ?_
 refine kC (y1259 == 0) (fun h1260 => ?_) (fun h1260 => ?_)
 have h1260p := cN h1260
 refine kG <| d2 1 [4,8,54] [(54,aP g)] 72 [gP g] (some 55) 0 rfl rfl hlo (l9Flags_c_K hBw hap) ?_
 rintro ⟨y1261,hy1261⟩
 refine ba [4,8] [] 2 ⟨85,bE { sg with flags := y1261 }⟩ ?_
 exact ⟨⟨({ sg with flags := y1261 }),(by first | assumption | (dsimp only; assumption) | exact Nat.zero_le _)⟩,kF 3 0 [4,8]⟩
 have h1260p := cI h1260
 refine kQ <| aU [0,3,4,8,51,57] [(57,aB (y1259 == 1))] <| kC (y1259 == 1) (fun h1262 => ?_) (fun h1262 => ?_)
 have h1262p := cN h1262
 refine kG <| d2 4 [4,8,59,62] [(59,aP g),(62,aI x.s.una)] 73 [gP g,iI x.s.una] (some 63) 0 rfl rfl hlo (l4Near_c_K hBw hap) ?_
 rintro ⟨y1263,hy1263⟩
 refine ba [4,8] [] 2 ⟨85,bE { sg with ack := y1263 }⟩ ?_
 exact ⟨⟨({ sg with ack := y1263 }),(by first | assumption | (dsimp only; assumption) | exact Nat.zero_le _)⟩,kF 3 0 [4,8]⟩
 have h1262p := cI h1262
 refine kQ <| aU [0,3,4,8,51,65] [(65,aB (y1259 == 2))] <| kC (y1259 == 2) (fun h1264 => ?_) (fun h1264 => ?_)
 have h1264p := cN h1264
 refine kG <| d2 4 [4,8,67,70] [(67,aP g),(70,aI x.r.next)] 73 [gP g,iI x.r.next] (some 71) 0 rfl rfl hlo (l4Near_c_K hBw hap) ?_
 rintro ⟨y1265,hy1265⟩
 refine cv [4,8] ⟨[(4,.p 1 0),(8,.p 2 0)],[⟨50,a6 x xV⟩,⟨85,eb⟩,⟨85,bE { sg with seq := y1265 }⟩],[],[cF B g A J cap,sQ A J cap,bd w (fun b => b = g),a9 (aw w B).heap.size 3 1 (.slice (some ⟨g905,0,none⟩) 5 5) (([0,1,8,64,65535] : List Int).map az)]⟩ ?_
 exact ⟨⟨({ sg with seq := y1265 }),(by first | assumption | (dsimp only; assumption) | exact Nat.zero_le _)⟩,kF 3 0 [4,8]⟩
 have h1264p := cI h1264
 refine kQ <| aU [4,8,73] [(73,aB (y1259 == 3))] <| kC (y1259 == 3) (fun h1266 => ?_) (fun h1266 => ?_)
 have h1266p := cN h1266
 refine kG <| cv [4,8] ⟨[(4,.p 1 0),(8,.p 2 0)],[⟨50,a6 x xV⟩,⟨85,eb⟩,⟨85,bE { sg with body := (⟨#[]⟩ : ByteArray) }⟩],[],[cF B g A J cap,sQ A J cap,bd w (fun b => b = g),a9 (aw w B).heap.size 3 1 (.slice (some ⟨g905,0,none⟩) 5 5) (([0,1,8,64,65535] : List Int).map az)]⟩ ?_
 exact ⟨⟨({ sg with body := (⟨#[]⟩ : ByteArray) }),(by first | assumption | (dsimp only; assumption) | exact Nat.zero_le _)⟩,kF 3 0 [4,8]⟩
 have h1266p := cI h1266
 refine kK ?_
 exact ⟨⟨(sg),(by first | assumption | (dsimp only; assumption) | exact Nat.zero_le _)⟩,kF 3 0 [4,8]⟩
 rintro ⟨sh,hsh⟩
 try dsimp only
 try dsimp only at hsh
 refine kQ <| dZ 2 [4,8,77] [(77,aI sh.seq)] 74 [iI sh.seq] (some 78) rfl (bF fun ww hf => fj sh.seq ww ) ?_
 intro _
 refine ba [4,8] [] 2 ⟨85,bE { sh with seq := sh.seq % 4294967296 }⟩ <| kQ <| dZ 2 [4,8,81] [(81,aI sh.ack)] 74 [iI sh.ack] (some 82) rfl (bF fun ww hf => fj sh.ack ww ) ?_
 intro _
 refine ba [4,8] [] 2 ⟨85,bE { sh with seq := sh.seq % 4294967296,ack := sh.ack % 4294967296 }⟩ <| kQ <| ba [4] [(4,.p 1 0)] 1 ⟨85,bE { sh with seq := sh.seq % 4294967296,ack := sh.ack % 4294967296 }⟩ <| kR ?_
 exact ⟨[.agg (bE { sh with seq := sh.seq % 4294967296,ack := sh.ack % 4294967296 }).toArray],by kernel_rfl,fun w' hb hf => ⟨⟨{ sh with seq := sh.seq % 4294967296,ack := sh.ack % 4294967296 },(by first | assumption | (dsimp only; assumption) | exact Nat.zero_le _)⟩,rfl,hf (cF B g A J cap) (by simp),ar (hf (bd w (fun b => b = g)) (by simp)) hb rfl rfl rfl⟩⟩
 refine bc (α := {zz : Int × Nat × Int // (fun (y755 : Int) (g905 : Nat) (y956 : Int) => 0 ≤ y755 ∧ (0 < (K6.wrap ((af x.s) + 1)) → y755 < (K6.wrap ((af x.s) + 1)))) zz.1 zz.2.1 zz.2.2}) (fun zz => (fun (y755 : Int) (g905 : Nat) (y956 : Int) => [(8,.p 2 0),(44,.v (.agg #[iI x.t.port,iI x.t.my,iI sq,iI (sA x.s.una y755),iI 16,iI y956,iI 0,iI (-1),.bool false,.bool false,iI 0,iI 0,.string y1.2.1]))]) zz.1.1 zz.1.2.1 zz.1.2.2) [0,3,4,7,8,44] (fun zz => (fun (y755 : Int) (g905 : Nat) (y956 : Int) => [⟨85,eb⟩]) zz.1.1 zz.1.2.1 zz.1.2.2) (fun zz => (fun (y755 : Int) (g905 : Nat) (y956 : Int) => [a9 (aw w B).heap.size 3 1 (.slice (some ⟨g905,0,none⟩) 5 5) (([0,1,8,64,65535] : List Int).map az)]) zz.1.1 zz.1.2.1 zz.1.2.2) 1 (bi 25 16777215) ?_ (fun hD6 => ?_)
 rintro ⟨⟨y755,g905,y956⟩,hy755⟩
 dsimp only [List.cons_append,List.nil_append]
 try dsimp only at hy755
 obtain ⟨hy7550,hy7551⟩ := hy755
 refine kA [24] <| dp 24 2 0 [iI x.t.port,iI x.t.my,iI sq,iI (sA x.s.una y755),iI 16,iI y956,iI 0,iI (-1),.bool false,.bool false,iI 0,iI 0,.string y1.2.1] rfl ?_
 exact ao (kF 3 0 [0,3,4,7,8]) (by kernel_rfl) (hD7 ⟨(y755,g905,y956),⟨hy7550,hy7551⟩⟩)
 refine bc (α := {zz : Int × Nat × Int // (fun (y755 : Int) (g905 : Nat) (y956 : Int) => 0 ≤ y755 ∧ (0 < (K6.wrap ((af x.s) + 1)) → y755 < (K6.wrap ((af x.s) + 1)))) zz.1 zz.2.1 zz.2.2}) (fun zz => (fun (y755 : Int) (g905 : Nat) (y956 : Int) => [(24,aI x.t.port),(27,aI x.t.my),(28,aI sq),(38,aI (sA x.s.una y755)),(41,aI y956),(42,.v (.agg #[iI 0,iI (-1),.bool false,.bool false,iI 0,iI 0])),(43,.v (.string y1.2.1))]) zz.1.1 zz.1.2.1 zz.1.2.2) [0,3,4,7,24,27,28,38,41,42,43] (fun _ => []) (fun zz => (fun (y755 : Int) (g905 : Nat) (y956 : Int) => [a9 (aw w B).heap.size 3 1 (.slice (some ⟨g905,0,none⟩) 5 5) (([0,1,8,64,65535] : List Int).map az)]) zz.1.1 zz.1.2.1 zz.1.2.2) 3 (bi 25 4194303) ?_ (fun hD5 => ?_)
 rintro ⟨⟨y755,g905,y956⟩,hy755⟩
 dsimp only [List.cons_append,List.nil_append]
 try dsimp only at hy755
 obtain ⟨hy7550,hy7551⟩ := hy755
 refine kX 22 (.agg #[iI x.t.port,iI x.t.my,iI sq,iI (sA x.s.una y755),iI 16,iI y956,iI 0,iI (-1),.bool false,.bool false,iI 0,iI 0,.string y1.2.1]) rfl (fun _ _ ww hA => aH [(0,iI x.t.port),(1,iI x.t.my),(2,iI sq),(3,iI (sA x.s.una y755)),(4,iI 16),(5,iI y956),(6,.agg #[iI 0,iI (-1),.bool false,.bool false,iI 0,iI 0]),(7,.string y1.2.1)] hA rfl (by kernel_rfl) (by kernel_rfl) ww) ?_
 refine kA [23] <| du 23 ⟨85,eb⟩ _ rfl (by kernel_rfl) (by kernel_rfl) (by kernel_rfl) (by kernel_rfl) rfl ?_
 exact ao (kF 3 0 [0,3,4,7,8,44]) (by kernel_rfl) (hD6 ⟨(y755,g905,y956),⟨hy7550,hy7551⟩⟩)
 refine bc (α := {zz : Int × Nat × Int // (fun (y755 : Int) (g905 : Nat) (y956 : Int) => 0 ≤ y755 ∧ (0 < (K6.wrap ((af x.s) + 1)) → y755 < (K6.wrap ((af x.s) + 1)))) zz.1 zz.2.1 zz.2.2}) (fun zz => (fun (y755 : Int) (g905 : Nat) (y956 : Int) => [(8,.p 2 0),(24,aI x.t.port),(27,aI x.t.my),(28,aI sq),(38,aI (sA x.s.una y755)),(41,aI y956),(42,.v (.agg #[iI 0,iI (-1),.bool false,.bool false,iI 0,iI 0])),(43,.v (.string y1.2.1))]) zz.1.1 zz.1.2.1 zz.1.2.2) [0,3,4,7,8,24,27,28,38,41,42,43] (fun zz => (fun (y755 : Int) (g905 : Nat) (y956 : Int) => [⟨85,eb⟩]) zz.1.1 zz.1.2.1 zz.1.2.2) (fun zz => (fun (y755 : Int) (g905 : Nat) (y956 : Int) => [a9 (aw w B).heap.size 3 1 (.slice (some ⟨g905,0,none⟩) 5 5) (([0,1,8,64,65535] : List Int).map az)]) zz.1.1 zz.1.2.1 zz.1.2.2) 2 (bi 25 12582911) ?_ (fun hD9 => ?_)
 rintro ⟨⟨y755,g905,y956⟩,hy755⟩
 dsimp only [List.cons_append,List.nil_append]
 try dsimp only at hy755
 obtain ⟨hy7550,hy7551⟩ := hy755
 refine kX 22 (.agg #[iI x.t.port,iI x.t.my,iI sq,iI (sA x.s.una y755),iI 16,iI y956,iI 0,iI (-1),.bool false,.bool false,iI 0,iI 0,.string y1.2.1]) rfl (fun _ _ ww hA => aH [(0,iI x.t.port),(1,iI x.t.my),(2,iI sq),(3,iI (sA x.s.una y755)),(4,iI 16),(5,iI y956),(6,.agg #[iI 0,iI (-1),.bool false,.bool false,iI 0,iI 0]),(7,.string y1.2.1)] hA rfl (by kernel_rfl) (by kernel_rfl) ww) ?_
 refine kA [24] <| dp 24 2 0 [iI x.t.port,iI x.t.my,iI sq,iI (sA x.s.una y755),iI 16,iI y956,iI 0,iI (-1),.bool false,.bool false,iI 0,iI 0,.string y1.2.1] rfl ?_
 exact ao (kF 3 0 [0,3,4,7,8]) (by kernel_rfl) (hD7 ⟨(y755,g905,y956),⟨hy7550,hy7551⟩⟩)
 refine bc (α := {zz : Int × Nat × Int // (fun (y755 : Int) (g905 : Nat) (y956 : Int) => 0 ≤ y755 ∧ (0 < (K6.wrap ((af x.s) + 1)) → y755 < (K6.wrap ((af x.s) + 1)))) zz.1 zz.2.1 zz.2.2}) (fun zz => (fun (y755 : Int) (g905 : Nat) (y956 : Int) => [(8,.p 2 0),(24,aI x.t.port),(27,aI x.t.my),(28,aI sq),(38,aI (sA x.s.una y755)),(41,aI y956),(43,.v (.string y1.2.1))]) zz.1.1 zz.1.2.1 zz.1.2.2) [0,3,4,7,8,24,27,28,38,41,43] (fun zz => (fun (y755 : Int) (g905 : Nat) (y956 : Int) => [⟨85,eb⟩]) zz.1.1 zz.1.2.1 zz.1.2.2) (fun zz => (fun (y755 : Int) (g905 : Nat) (y956 : Int) => [a9 (aw w B).heap.size 3 1 (.slice (some ⟨g905,0,none⟩) 5 5) (([0,1,8,64,65535] : List Int).map az)]) zz.1.1 zz.1.2.1 zz.1.2.2) 3 (bi 25 11534335) ?_ (fun hD8 => ?_)
 rintro ⟨⟨y755,g905,y956⟩,hy755⟩
 dsimp only [List.cons_append,List.nil_append]
 try dsimp only at hy755
 obtain ⟨hy7550,hy7551⟩ := hy755
 refine kA [20] <| d8 20 53 [] (some 42) rfl (br fun ww hf => eQ  ww ) ?_
 intro _
 exact ao (kF 3 0 [0,3,4,7,8,24,27,28,38,41,42,43]) (by kernel_rfl) (hD9 ⟨(y755,g905,y956),⟨hy7550,hy7551⟩⟩)
 refine bc (α := {zz : Int × Nat × Int // (fun (y755 : Int) (g905 : Nat) (y956 : Int) => 0 ≤ y755 ∧ (0 < (K6.wrap ((af x.s) + 1)) → y755 < (K6.wrap ((af x.s) + 1)))) zz.1 zz.2.1 zz.2.2}) (fun zz => (fun (y755 : Int) (g905 : Nat) (y956 : Int) => [(24,aI x.t.port),(27,aI x.t.my),(28,aI sq),(38,aI (sA x.s.una y755)),(41,aI y956),(43,.v (.string y1.2.1))]) zz.1.1 zz.1.2.1 zz.1.2.2) [0,3,4,7,24,27,28,38,41,43] (fun _ => []) (fun zz => (fun (y755 : Int) (g905 : Nat) (y956 : Int) => [a9 (aw w B).heap.size 3 1 (.slice (some ⟨g905,0,none⟩) 5 5) (([0,1,8,64,65535] : List Int).map az)]) zz.1.1 zz.1.2.1 zz.1.2.2) 4 (bi 25 3145727) ?_ (fun hD4 => ?_)
 rintro ⟨⟨y755,g905,y956⟩,hy755⟩
 dsimp only [List.cons_append,List.nil_append]
 try dsimp only at hy755
 obtain ⟨hy7550,hy7551⟩ := hy755
 refine kA [20,23] ⟨?_,?_⟩
 refine d8 20 53 [] (some 42) rfl (br fun ww hf => eQ  ww ) ?_
 intro _
 exact ao (kF 2 0 [0,3,4,7,24,27,28,38,41,42,43]) (by kernel_rfl) (hD5 ⟨(y755,g905,y956),⟨hy7550,hy7551⟩⟩)
 refine du 23 ⟨85,eb⟩ _ rfl (by kernel_rfl) (by kernel_rfl) (by kernel_rfl) (by kernel_rfl) rfl ?_
 exact ao (kF 3 0 [0,3,4,7,8,24,27,28,38,41,43]) (by kernel_rfl) (hD8 ⟨(y755,g905,y956),⟨hy7550,hy7551⟩⟩)
 refine bc (α := {zz : Int × Nat // (fun (y755 : Int) (g905 : Nat) => 0 ≤ y755 ∧ (0 < (K6.wrap ((af x.s) + 1)) → y755 < (K6.wrap ((af x.s) + 1)))) zz.1 zz.2}) (fun zz => (fun (y755 : Int) (g905 : Nat) => [(8,.p 2 0),(24,aI x.t.port),(27,aI x.t.my),(28,aI sq),(38,aI (sA x.s.una y755)),(39,aP g),(40,.v (.slice (some ⟨g905,0,none⟩) 5 5)),(43,.v (.string y1.2.1))]) zz.1.1 zz.1.2) [0,3,4,7,8,24,27,28,38,39,40,43] (fun zz => (fun (y755 : Int) (g905 : Nat) => [⟨85,eb⟩]) zz.1.1 zz.1.2) (fun zz => (fun (y755 : Int) (g905 : Nat) => [a9 (aw w B).heap.size 3 1 (.slice (some ⟨g905,0,none⟩) 5 5) (([0,1,8,64,65535] : List Int).map az)]) zz.1.1 zz.1.2) 4 (bi 25 11010047) ?_ (fun hD10 => ?_)
 rintro ⟨⟨y755,g905⟩,hy755⟩
 dsimp only [List.cons_append,List.nil_append]
 try dsimp only at hy755
 obtain ⟨hy7550,hy7551⟩ := hy755
 refine kA [19] <| fH (φ := ¬ (bz (.slice (some ⟨g905,0,none⟩) 5 5) 1 (([0,1,8,64,65535] : List Int).map az)).blk g) (fun _ _ _ _ hr => fun hb => hr.2.apart 3 0 (a9 (aw w B).heap.size 3 1 (.slice (some ⟨g905,0,none⟩) 5 5) (([0,1,8,64,65535] : List Int).map az)) (cF B g A J cap) rfl rfl (by decide) rfl g (bf hb) rfl) (fun hk955 => ?_)
 refine eD 19 19 [gP g,.slice (some ⟨g905,0,none⟩) 5 5] (some 41) 0 rfl rfl hlo (a5 (a5 a7)) (aL hBw hap (fun ww hw hf => (au (hf _ m3))) hk955 (by simp)) ?_
 rintro ⟨y956,hy956⟩
 exact ao (kF 3 0 [0,3,4,7,8,24,27,28,38,41,43]) (by kernel_rfl) (hD8 ⟨(y755,g905,y956),⟨hy7550,hy7551⟩⟩)
 refine bc (α := {zz : Int × Nat // (fun (y755 : Int) (g905 : Nat) => 0 ≤ y755 ∧ (0 < (K6.wrap ((af x.s) + 1)) → y755 < (K6.wrap ((af x.s) + 1)))) zz.1 zz.2}) (fun zz => (fun (y755 : Int) (g905 : Nat) => [(24,aI x.t.port),(27,aI x.t.my),(28,aI sq),(38,aI (sA x.s.una y755)),(39,aP g),(40,.v (.slice (some ⟨g905,0,none⟩) 5 5)),(43,.v (.string y1.2.1))]) zz.1.1 zz.1.2) [0,3,4,7,24,27,28,38,39,40,43] (fun _ => []) (fun zz => (fun (y755 : Int) (g905 : Nat) => [a9 (aw w B).heap.size 3 1 (.slice (some ⟨g905,0,none⟩) 5 5) (([0,1,8,64,65535] : List Int).map az)]) zz.1.1 zz.1.2) 5 (bi 25 2621439) ?_ (fun hD3 => ?_)
 rintro ⟨⟨y755,g905⟩,hy755⟩
 dsimp only [List.cons_append,List.nil_append]
 try dsimp only at hy755
 obtain ⟨hy7550,hy7551⟩ := hy755
 refine kA [19,23] ⟨?_,?_⟩
 refine fH (φ := ¬ (bz (.slice (some ⟨g905,0,none⟩) 5 5) 1 (([0,1,8,64,65535] : List Int).map az)).blk g) (fun _ _ _ _ hr => fun hb => hr.2.apart 3 0 (a9 (aw w B).heap.size 3 1 (.slice (some ⟨g905,0,none⟩) 5 5) (([0,1,8,64,65535] : List Int).map az)) (cF B g A J cap) rfl rfl (by decide) rfl g (bf hb) rfl) (fun hk955 => ?_)
 refine eD 19 19 [gP g,.slice (some ⟨g905,0,none⟩) 5 5] (some 41) 0 rfl rfl hlo (a5 (a5 a7)) (aL hBw hap (fun ww hw hf => (au (hf _ m3))) hk955 (by simp)) ?_
 rintro ⟨y956,hy956⟩
 exact ao (kF 2 0 [0,3,4,7,24,27,28,38,41,43]) (by kernel_rfl) (hD4 ⟨(y755,g905,y956),⟨hy7550,hy7551⟩⟩)
 refine du 23 ⟨85,eb⟩ _ rfl (by kernel_rfl) (by kernel_rfl) (by kernel_rfl) (by kernel_rfl) rfl ?_
 exact ao (kF 3 0 [0,3,4,7,8,24,27,28,38,39,40,43]) (by kernel_rfl) (hD10 ⟨(y755,g905),⟨hy7550,hy7551⟩⟩)
 refine bc (α := {zz : Int // (fun (y755 : Int) => 0 ≤ y755 ∧ (0 < (K6.wrap ((af x.s) + 1)) → y755 < (K6.wrap ((af x.s) + 1)))) zz}) (fun zz => (fun (y755 : Int) => [(8,.p 2 0),(24,aI x.t.port),(27,aI x.t.my),(28,aI sq),(38,aI (sA x.s.una y755)),(39,aP g),(43,.v (.string y1.2.1))]) zz.1) [0,3,4,7,8,24,27,28,38,39,43] (fun zz => (fun (y755 : Int) => [⟨85,eb⟩]) zz.1) (fun zz => (fun (y755 : Int) => []) zz.1) 5 (bi 25 10747903) ?_ (fun hD11 => ?_)
 rintro ⟨y755,hy755⟩
 dsimp only [List.cons_append,List.nil_append]
 try dsimp only at hy755
 obtain ⟨hy7550,hy7551⟩ := hy755
 refine kA [18] <| dG 18 rfl (a5 (a5 a7)) (aQ (e := 3) (K := 1) (bytes := 8) [iI 0,iI 1,iI 8,iI 64,iI 65535] (rs := ([0,1,8,64,65535] : List Int).map az) rfl rfl) ?_
 intro g905
 exact ao (en [1,2,3,0] <| kF 3 0 [0,3,4,7,8,24,27,28,38,39,40,43]) (by kernel_rfl) (hD10 ⟨(y755,g905),⟨hy7550,hy7551⟩⟩)
 refine cf (α := {zz : Int // (fun (y755 : Int) => 0 ≤ y755 ∧ (0 < (K6.wrap ((af x.s) + 1)) → y755 < (K6.wrap ((af x.s) + 1)))) zz}) (fun zz => (fun (y755 : Int) => [(24,aI x.t.port),(27,aI x.t.my),(28,aI sq),(38,aI (sA x.s.una y755)),(39,aP g),(43,.v (.string y1.2.1))]) zz.1) [0,3,4,7,24,27,28,38,39,43] 6 (bi 25 2359295) ?_ (fun hD2 => ?_)
 rintro ⟨y755,hy755⟩
 try dsimp only
 try dsimp only at hy755
 obtain ⟨hy7550,hy7551⟩ := hy755
 refine kA [18,23] ⟨?_,?_⟩
 refine dG 18 rfl (a5 (a5 a7)) (aQ (e := 3) (K := 1) (bytes := 8) [iI 0,iI 1,iI 8,iI 64,iI 65535] (rs := ([0,1,8,64,65535] : List Int).map az) rfl rfl) ?_
 intro g905
 exact ao (en [1,2,3,0] <| kF 2 0 [0,3,4,7,24,27,28,38,39,40,43]) (by kernel_rfl) (hD3 ⟨(y755,g905),⟨hy7550,hy7551⟩⟩)
 refine du 23 ⟨85,eb⟩ _ rfl (by kernel_rfl) (by kernel_rfl) (by kernel_rfl) (by kernel_rfl) rfl ?_
 exact ao (kF 3 0 [0,3,4,7,8,24,27,28,38,39,43]) (by kernel_rfl) (hD11 ⟨(y755),⟨hy7550,hy7551⟩⟩)
 refine bc (α := {zz : Int × Nat // (fun (y755 : Int) (g905 : Nat) => 0 ≤ y755 ∧ (0 < (K6.wrap ((af x.s) + 1)) → y755 < (K6.wrap ((af x.s) + 1)))) zz.1 zz.2}) (fun zz => (fun (y755 : Int) (g905 : Nat) => [(8,.p 2 0),(24,aI x.t.port),(27,aI x.t.my),(28,aI sq),(31,aI x.s.una),(37,aI y755),(39,aP g),(40,.v (.slice (some ⟨g905,0,none⟩) 5 5)),(43,.v (.string y1.2.1))]) zz.1.1 zz.1.2) [0,3,4,7,8,24,27,28,31,37,39,40,43] (fun zz => (fun (y755 : Int) (g905 : Nat) => [⟨85,eb⟩]) zz.1.1 zz.1.2) (fun zz => (fun (y755 : Int) (g905 : Nat) => [a9 (aw w B).heap.size 3 1 (.slice (some ⟨g905,0,none⟩) 5 5) (([0,1,8,64,65535] : List Int).map az)]) zz.1.1 zz.1.2) 5 (bi 25 10944511) ?_ (fun hD13 => ?_)
 rintro ⟨⟨y755,g905⟩,hy755⟩
 dsimp only [List.cons_append,List.nil_append]
 try dsimp only at hy755
 obtain ⟨hy7550,hy7551⟩ := hy755
 refine kA [16] <| d8 16 56 [iI x.s.una,iI y755] (some 38) rfl (bF fun ww hf => bk x.s.una y755 ww ) ?_
 intro _
 exact ao (kF 3 0 [0,3,4,7,8,24,27,28,38,39,40,43]) (by kernel_rfl) (hD10 ⟨(y755,g905),⟨hy7550,hy7551⟩⟩)
 refine bc (α := {zz : Int × Nat // (fun (y755 : Int) (g905 : Nat) => 0 ≤ y755 ∧ (0 < (K6.wrap ((af x.s) + 1)) → y755 < (K6.wrap ((af x.s) + 1)))) zz.1 zz.2}) (fun zz => (fun (y755 : Int) (g905 : Nat) => [(24,aI x.t.port),(27,aI x.t.my),(28,aI sq),(31,aI x.s.una),(37,aI y755),(39,aP g),(40,.v (.slice (some ⟨g905,0,none⟩) 5 5)),(43,.v (.string y1.2.1))]) zz.1.1 zz.1.2) [0,3,4,7,24,27,28,31,37,39,40,43] (fun _ => []) (fun zz => (fun (y755 : Int) (g905 : Nat) => [a9 (aw w B).heap.size 3 1 (.slice (some ⟨g905,0,none⟩) 5 5) (([0,1,8,64,65535] : List Int).map az)]) zz.1.1 zz.1.2) 6 (bi 25 2555903) ?_ (fun hD12 => ?_)
 rintro ⟨⟨y755,g905⟩,hy755⟩
 dsimp only [List.cons_append,List.nil_append]
 try dsimp only at hy755
 obtain ⟨hy7550,hy7551⟩ := hy755
 refine kA [16,23] ⟨?_,?_⟩
 refine d8 16 56 [iI x.s.una,iI y755] (some 38) rfl (bF fun ww hf => bk x.s.una y755 ww ) ?_
 intro _
 exact ao (kF 2 0 [0,3,4,7,24,27,28,38,39,40,43]) (by kernel_rfl) (hD3 ⟨(y755,g905),⟨hy7550,hy7551⟩⟩)
 refine du 23 ⟨85,eb⟩ _ rfl (by kernel_rfl) (by kernel_rfl) (by kernel_rfl) (by kernel_rfl) rfl ?_
 exact ao (kF 3 0 [0,3,4,7,8,24,27,28,31,37,39,40,43]) (by kernel_rfl) (hD13 ⟨(y755,g905),⟨hy7550,hy7551⟩⟩)
 refine bc (α := {zz : Int // (fun (y755 : Int) => 0 ≤ y755 ∧ (0 < (K6.wrap ((af x.s) + 1)) → y755 < (K6.wrap ((af x.s) + 1)))) zz}) (fun zz => (fun (y755 : Int) => [(8,.p 2 0),(24,aI x.t.port),(27,aI x.t.my),(28,aI sq),(31,aI x.s.una),(37,aI y755),(39,aP g),(43,.v (.string y1.2.1))]) zz.1) [0,3,4,7,8,24,27,28,31,37,39,43] (fun zz => (fun (y755 : Int) => [⟨85,eb⟩]) zz.1) (fun zz => (fun (y755 : Int) => []) zz.1) 6 (bi 25 10682367) ?_ (fun hD14 => ?_)
 rintro ⟨y755,hy755⟩
 dsimp only [List.cons_append,List.nil_append]
 try dsimp only at hy755
 obtain ⟨hy7550,hy7551⟩ := hy755
 refine kA [16,18] ⟨?_,?_⟩
 refine d8 16 56 [iI x.s.una,iI y755] (some 38) rfl (bF fun ww hf => bk x.s.una y755 ww ) ?_
 intro _
 exact ao (kF 3 0 [0,3,4,7,8,24,27,28,38,39,43]) (by kernel_rfl) (hD11 ⟨(y755),⟨hy7550,hy7551⟩⟩)
 refine dG 18 rfl (a5 (a5 a7)) (aQ (e := 3) (K := 1) (bytes := 8) [iI 0,iI 1,iI 8,iI 64,iI 65535] (rs := ([0,1,8,64,65535] : List Int).map az) rfl rfl) ?_
 intro g905
 exact ao (en [1,2,3,0] <| kF 3 0 [0,3,4,7,8,24,27,28,31,37,39,40,43]) (by kernel_rfl) (hD13 ⟨(y755,g905),⟨hy7550,hy7551⟩⟩)
 refine cf (α := {zz : Int // (fun (y755 : Int) => 0 ≤ y755 ∧ (0 < (K6.wrap ((af x.s) + 1)) → y755 < (K6.wrap ((af x.s) + 1)))) zz}) (fun zz => (fun (y755 : Int) => [(24,aI x.t.port),(27,aI x.t.my),(28,aI sq),(31,aI x.s.una),(37,aI y755),(39,aP g),(43,.v (.string y1.2.1))]) zz.1) [0,3,4,7,24,27,28,31,37,39,43] 7 (bi 25 2293759) ?_ (fun hD1 => ?_)
 rintro ⟨y755,hy755⟩
 try dsimp only
 try dsimp only at hy755
 obtain ⟨hy7550,hy7551⟩ := hy755
 refine kA [16,18,23] ⟨?_,?_,?_⟩
 refine d8 16 56 [iI x.s.una,iI y755] (some 38) rfl (bF fun ww hf => bk x.s.una y755 ww ) ?_
 intro _
 exact ao (kF 2 0 [0,3,4,7,24,27,28,38,39,43]) (by kernel_rfl) (hD2 ⟨(y755),⟨hy7550,hy7551⟩⟩)
 refine dG 18 rfl (a5 (a5 a7)) (aQ (e := 3) (K := 1) (bytes := 8) [iI 0,iI 1,iI 8,iI 64,iI 65535] (rs := ([0,1,8,64,65535] : List Int).map az) rfl rfl) ?_
 intro g905
 exact ao (en [1,2,3,0] <| kF 2 0 [0,3,4,7,24,27,28,31,37,39,40,43]) (by kernel_rfl) (hD12 ⟨(y755,g905),⟨hy7550,hy7551⟩⟩)
 refine du 23 ⟨85,eb⟩ _ rfl (by kernel_rfl) (by kernel_rfl) (by kernel_rfl) (by kernel_rfl) rfl ?_
 exact ao (kF 3 0 [0,3,4,7,8,24,27,28,31,37,39,43]) (by kernel_rfl) (hD14 ⟨(y755),⟨hy7550,hy7551⟩⟩)
 refine bc (α := Nat) (fun zz => (fun (g905 : Nat) => [(8,.p 2 0),(24,aI x.t.port),(27,aI x.t.my),(28,aI sq),(31,aI x.s.una),(32,aP g),(36,aI (K6.wrap ((af x.s) + 1))),(39,aP g),(40,.v (.slice (some ⟨g905,0,none⟩) 5 5)),(43,.v (.string y1.2.1))]) zz) [0,3,4,7,8,24,27,28,31,32,36,39,40,43] (fun zz => (fun (g905 : Nat) => [⟨85,eb⟩]) zz) (fun zz => (fun (g905 : Nat) => [a9 (aw w B).heap.size 3 1 (.slice (some ⟨g905,0,none⟩) 5 5) (([0,1,8,64,65535] : List Int).map az)]) zz) 6 (bi 25 10911743) ?_ (fun hD16 => ?_)
 intro g905
 dsimp only [List.cons_append,List.nil_append]
 refine kA [15] <| eD 15 16 [gP g,iI (K6.wrap ((af x.s) + 1))] (some 37) 0 rfl rfl hlo (a5 (a5 a7)) (av hBw hap) ?_
 rintro ⟨y755,hy755⟩
 obtain ⟨hy7550,hy7551⟩ := hy755
 exact ao (kF 3 0 [0,3,4,7,8,24,27,28,31,37,39,40,43]) (by kernel_rfl) (hD13 ⟨(y755,g905),⟨hy7550,hy7551⟩⟩)
 refine bc (α := Nat) (fun zz => (fun (g905 : Nat) => [(24,aI x.t.port),(27,aI x.t.my),(28,aI sq),(31,aI x.s.una),(32,aP g),(36,aI (K6.wrap ((af x.s) + 1))),(39,aP g),(40,.v (.slice (some ⟨g905,0,none⟩) 5 5)),(43,.v (.string y1.2.1))]) zz) [0,3,4,7,24,27,28,31,32,36,39,40,43] (fun _ => []) (fun zz => (fun (g905 : Nat) => [a9 (aw w B).heap.size 3 1 (.slice (some ⟨g905,0,none⟩) 5 5) (([0,1,8,64,65535] : List Int).map az)]) zz) 7 (bi 25 2523135) ?_ (fun hD15 => ?_)
 intro g905
 dsimp only [List.cons_append,List.nil_append]
 refine kA [15,23] ⟨?_,?_⟩
 refine eD 15 16 [gP g,iI (K6.wrap ((af x.s) + 1))] (some 37) 0 rfl rfl hlo (a5 (a5 a7)) (av hBw hap) ?_
 rintro ⟨y755,hy755⟩
 obtain ⟨hy7550,hy7551⟩ := hy755
 exact ao (kF 2 0 [0,3,4,7,24,27,28,31,37,39,40,43]) (by kernel_rfl) (hD12 ⟨(y755,g905),⟨hy7550,hy7551⟩⟩)
 refine du 23 ⟨85,eb⟩ _ rfl (by kernel_rfl) (by kernel_rfl) (by kernel_rfl) (by kernel_rfl) rfl ?_
 exact ao (kF 3 0 [0,3,4,7,8,24,27,28,31,32,36,39,40,43]) (by kernel_rfl) (hD16 (g905))
 refine bc (α := Unit) (fun zz => (fun (u_ : Unit) => [(8,.p 2 0),(24,aI x.t.port),(27,aI x.t.my),(28,aI sq),(31,aI x.s.una),(32,aP g),(36,aI (K6.wrap ((af x.s) + 1))),(39,aP g),(43,.v (.string y1.2.1))]) zz) [0,3,4,7,8,24,27,28,31,32,36,39,43] (fun zz => (fun (u_ : Unit) => [⟨85,eb⟩]) zz) (fun zz => (fun (u_ : Unit) => []) zz) 7 (bi 25 10649599) ?_ (fun hD17 => ?_)
 intro u_
 dsimp only [List.cons_append,List.nil_append]
 refine kA [15,18] ⟨?_,?_⟩
 refine eD 15 16 [gP g,iI (K6.wrap ((af x.s) + 1))] (some 37) 0 rfl rfl hlo (a5 (a5 a7)) (av hBw hap) ?_
 rintro ⟨y755,hy755⟩
 obtain ⟨hy7550,hy7551⟩ := hy755
 exact ao (kF 3 0 [0,3,4,7,8,24,27,28,31,37,39,43]) (by kernel_rfl) (hD14 ⟨(y755),⟨hy7550,hy7551⟩⟩)
 refine dG 18 rfl (a5 (a5 a7)) (aQ (e := 3) (K := 1) (bytes := 8) [iI 0,iI 1,iI 8,iI 64,iI 65535] (rs := ([0,1,8,64,65535] : List Int).map az) rfl rfl) ?_
 intro g905
 exact ao (en [1,2,3,0] <| kF 3 0 [0,3,4,7,8,24,27,28,31,32,36,39,40,43]) (by kernel_rfl) (hD16 (g905))
 refine cf (α := Unit) (fun zz => (fun (u_ : Unit) => [(24,aI x.t.port),(27,aI x.t.my),(28,aI sq),(31,aI x.s.una),(32,aP g),(35,aI (af x.s)),(39,aP g),(43,.v (.string y1.2.1))]) zz) [0,3,4,7,24,27,28,31,32,35,39,43] 9 (bi 25 2244607) ?_ (fun hD0 => ?_)
 intro u_
 try dsimp only
 refine d3 [14] [36,0,3,4,7,24,27,28,31,32,39,43] 8 [(36,aI (K6.wrap ((af x.s) + 1)))] <| kA [15,18,23] ⟨?_,?_,?_⟩
 refine eD 15 16 [gP g,iI (K6.wrap ((af x.s) + 1))] (some 37) 0 rfl rfl hlo (a5 (a5 a7)) (av hBw hap) ?_
 rintro ⟨y755,hy755⟩
 obtain ⟨hy7550,hy7551⟩ := hy755
 exact ao (kF 2 0 [0,3,4,7,24,27,28,31,37,39,43]) (by kernel_rfl) (hD1 ⟨(y755),⟨hy7550,hy7551⟩⟩)
 refine dG 18 rfl (a5 (a5 a7)) (aQ (e := 3) (K := 1) (bytes := 8) [iI 0,iI 1,iI 8,iI 64,iI 65535] (rs := ([0,1,8,64,65535] : List Int).map az) rfl rfl) ?_
 intro g905
 exact ao (en [1,2,3,0] <| kF 2 0 [0,3,4,7,24,27,28,31,32,36,39,40,43]) (by kernel_rfl) (hD15 (g905))
 refine du 23 ⟨85,eb⟩ _ rfl (by kernel_rfl) (by kernel_rfl) (by kernel_rfl) (by kernel_rfl) rfl ?_
 exact ao (kF 3 0 [0,3,4,7,8,24,27,28,31,32,36,39,43]) (by kernel_rfl) (hD17 ())
 refine bc (α := Nat) (fun zz => (fun (g905 : Nat) => [(24,aI x.t.port),(27,aI x.t.my),(28,aI sq),(31,aI x.s.una),(32,aP g),(35,aI (af x.s)),(39,aP g),(40,.v (.slice (some ⟨g905,0,none⟩) 5 5)),(43,.v (.string y1.2.1))]) zz) [0,3,4,7,24,27,28,31,32,35,39,40,43] (fun _ => []) (fun zz => (fun (g905 : Nat) => [a9 (aw w B).heap.size 3 1 (.slice (some ⟨g905,0,none⟩) 5 5) (([0,1,8,64,65535] : List Int).map az)]) zz) 8 (bi 25 2506751) ?_ (fun hD19 => ?_)
 intro g905
 dsimp only [List.cons_append,List.nil_append]
 refine d3 [14] [36,0,3,4,7,24,27,28,31,32,39,40,43] 7 [(36,aI (K6.wrap ((af x.s) + 1)))] <| kA [15,23] ⟨?_,?_⟩
 refine eD 15 16 [gP g,iI (K6.wrap ((af x.s) + 1))] (some 37) 0 rfl rfl hlo (a5 (a5 a7)) (av hBw hap) ?_
 rintro ⟨y755,hy755⟩
 obtain ⟨hy7550,hy7551⟩ := hy755
 exact ao (kF 2 0 [0,3,4,7,24,27,28,31,37,39,40,43]) (by kernel_rfl) (hD12 ⟨(y755,g905),⟨hy7550,hy7551⟩⟩)
 refine du 23 ⟨85,eb⟩ _ rfl (by kernel_rfl) (by kernel_rfl) (by kernel_rfl) (by kernel_rfl) rfl ?_
 exact ao (kF 3 0 [0,3,4,7,8,24,27,28,31,32,36,39,40,43]) (by kernel_rfl) (hD16 (g905))
 refine bc (α := Nat) (fun zz => (fun (g905 : Nat) => [(8,.p 2 0),(24,aI x.t.port),(27,aI x.t.my),(28,aI sq),(31,aI x.s.una),(32,aP g),(35,aI (af x.s)),(39,aP g),(40,.v (.slice (some ⟨g905,0,none⟩) 5 5)),(43,.v (.string y1.2.1))]) zz) [0,3,4,7,8,24,27,28,31,32,35,39,40,43] (fun zz => (fun (g905 : Nat) => [⟨85,eb⟩]) zz) (fun zz => (fun (g905 : Nat) => [a9 (aw w B).heap.size 3 1 (.slice (some ⟨g905,0,none⟩) 5 5) (([0,1,8,64,65535] : List Int).map az)]) zz) 7 (bi 25 10895359) ?_ (fun hD21 => ?_)
 intro g905
 dsimp only [List.cons_append,List.nil_append]
 refine d3 [14] [36,0,3,4,7,8,24,27,28,31,32,39,40,43] 6 [(36,aI (K6.wrap ((af x.s) + 1)))] <| kA [15] <| eD 15 16 [gP g,iI (K6.wrap ((af x.s) + 1))] (some 37) 0 rfl rfl hlo (a5 (a5 a7)) (av hBw hap) ?_
 rintro ⟨y755,hy755⟩
 obtain ⟨hy7550,hy7551⟩ := hy755
 exact ao (kF 3 0 [0,3,4,7,8,24,27,28,31,37,39,40,43]) (by kernel_rfl) (hD13 ⟨(y755,g905),⟨hy7550,hy7551⟩⟩)
 refine bc (α := Nat) (fun zz => (fun (g905 : Nat) => [(8,.p 2 0),(24,aI x.t.port),(27,aI x.t.my),(28,aI sq),(31,aI x.s.una),(32,aP g),(34,.v (.agg (am x.s).toArray)),(39,aP g),(40,.v (.slice (some ⟨g905,0,none⟩) 5 5)),(43,.v (.string y1.2.1))]) zz) [0,3,4,7,8,24,27,28,31,32,34,39,40,43] (fun zz => (fun (g905 : Nat) => [⟨85,eb⟩]) zz) (fun zz => (fun (g905 : Nat) => [a9 (aw w B).heap.size 3 1 (.slice (some ⟨g905,0,none⟩) 5 5) (([0,1,8,64,65535] : List Int).map az)]) zz) 8 (bi 25 10887167) ?_ (fun hD20 => ?_)
 intro g905
 dsimp only [List.cons_append,List.nil_append]
 refine kA [13] <| d8 13 71 [.agg (am x.s).toArray] (some 35) rfl (br fun ww hf => dY x.s.una x.s.data x.s.sent x.s.fin x.s.finSent x.s.done ww ) ?_
 intro _
 exact ao (kF 3 0 [0,3,4,7,8,24,27,28,31,32,35,39,40,43]) (by kernel_rfl) (hD21 (g905))
 refine bc (α := Nat) (fun zz => (fun (g905 : Nat) => [(24,aI x.t.port),(27,aI x.t.my),(28,aI sq),(31,aI x.s.una),(32,aP g),(34,.v (.agg (am x.s).toArray)),(39,aP g),(40,.v (.slice (some ⟨g905,0,none⟩) 5 5)),(43,.v (.string y1.2.1))]) zz) [0,3,4,7,24,27,28,31,32,34,39,40,43] (fun _ => []) (fun zz => (fun (g905 : Nat) => [a9 (aw w B).heap.size 3 1 (.slice (some ⟨g905,0,none⟩) 5 5) (([0,1,8,64,65535] : List Int).map az)]) zz) 9 (bi 25 2498559) ?_ (fun hD18 => ?_)
 intro g905
 dsimp only [List.cons_append,List.nil_append]
 refine kA [13,23] ⟨?_,?_⟩
 refine d8 13 71 [.agg (am x.s).toArray] (some 35) rfl (br fun ww hf => dY x.s.una x.s.data x.s.sent x.s.fin x.s.finSent x.s.done ww ) ?_
 intro _
 exact ao (kF 2 0 [0,3,4,7,24,27,28,31,32,35,39,40,43]) (by kernel_rfl) (hD19 (g905))
 refine du 23 ⟨85,eb⟩ _ rfl (by kernel_rfl) (by kernel_rfl) (by kernel_rfl) (by kernel_rfl) rfl ?_
 exact ao (kF 3 0 [0,3,4,7,8,24,27,28,31,32,34,39,40,43]) (by kernel_rfl) (hD20 (g905))
 refine bc (α := Unit) (fun zz => (fun (u_ : Unit) => [(8,.p 2 0),(24,aI x.t.port),(27,aI x.t.my),(28,aI sq),(31,aI x.s.una),(32,aP g),(35,aI (af x.s)),(39,aP g),(43,.v (.string y1.2.1))]) zz) [0,3,4,7,8,24,27,28,31,32,35,39,43] (fun zz => (fun (u_ : Unit) => [⟨85,eb⟩]) zz) (fun zz => (fun (u_ : Unit) => []) zz) 8 (bi 25 10633215) ?_ (fun hD23 => ?_)
 intro u_
 dsimp only [List.cons_append,List.nil_append]
 refine d3 [14] [36,0,3,4,7,8,24,27,28,31,32,39,43] 7 [(36,aI (K6.wrap ((af x.s) + 1)))] <| kA [15,18] ⟨?_,?_⟩
 refine eD 15 16 [gP g,iI (K6.wrap ((af x.s) + 1))] (some 37) 0 rfl rfl hlo (a5 (a5 a7)) (av hBw hap) ?_
 rintro ⟨y755,hy755⟩
 obtain ⟨hy7550,hy7551⟩ := hy755
 exact ao (kF 3 0 [0,3,4,7,8,24,27,28,31,37,39,43]) (by kernel_rfl) (hD14 ⟨(y755),⟨hy7550,hy7551⟩⟩)
 refine dG 18 rfl (a5 (a5 a7)) (aQ (e := 3) (K := 1) (bytes := 8) [iI 0,iI 1,iI 8,iI 64,iI 65535] (rs := ([0,1,8,64,65535] : List Int).map az) rfl rfl) ?_
 intro g905
 exact ao (en [1,2,3,0] <| kF 3 0 [0,3,4,7,8,24,27,28,31,32,36,39,40,43]) (by kernel_rfl) (hD16 (g905))
 refine bc (α := Unit) (fun zz => (fun (u_ : Unit) => [(8,.p 2 0),(24,aI x.t.port),(27,aI x.t.my),(28,aI sq),(31,aI x.s.una),(32,aP g),(34,.v (.agg (am x.s).toArray)),(39,aP g),(43,.v (.string y1.2.1))]) zz) [0,3,4,7,8,24,27,28,31,32,34,39,43] (fun zz => (fun (u_ : Unit) => [⟨85,eb⟩]) zz) (fun zz => (fun (u_ : Unit) => []) zz) 9 (bi 25 10625023) ?_ (fun hD22 => ?_)
 intro u_
 dsimp only [List.cons_append,List.nil_append]
 refine kA [13,18] ⟨?_,?_⟩
 refine d8 13 71 [.agg (am x.s).toArray] (some 35) rfl (br fun ww hf => dY x.s.una x.s.data x.s.sent x.s.fin x.s.finSent x.s.done ww ) ?_
 intro _
 exact ao (kF 3 0 [0,3,4,7,8,24,27,28,31,32,35,39,43]) (by kernel_rfl) (hD23 ())
 refine dG 18 rfl (a5 (a5 a7)) (aQ (e := 3) (K := 1) (bytes := 8) [iI 0,iI 1,iI 8,iI 64,iI 65535] (rs := ([0,1,8,64,65535] : List Int).map az) rfl rfl) ?_
 intro g905
 exact ao (en [1,2,3,0] <| kF 3 0 [0,3,4,7,8,24,27,28,31,32,34,39,40,43]) (by kernel_rfl) (hD20 (g905))
 refine d3 [0,1,2,3,4,5,6,7,8,9,10,11,12,17,21] [43,39,34,32,31,28,27,24,0,3,4,7] 10 [(43,.v (.string y1.2.1)),(39,aP g),(34,.v (.agg (am x.s).toArray)),(32,aP g),(31,aI x.s.una),(28,aI sq),(27,aI x.t.my),(24,aI x.t.port)] <| kA [13,18,23] ⟨?_,?_,?_⟩
 refine d8 13 71 [.agg (am x.s).toArray] (some 35) rfl (br fun ww hf => dY x.s.una x.s.data x.s.sent x.s.fin x.s.finSent x.s.done ww ) ?_
 intro _
 exact ao (kF 2 0 [0,3,4,7,24,27,28,31,32,35,39,43]) (by kernel_rfl) (hD0 ())
 refine dG 18 rfl (a5 (a5 a7)) (aQ (e := 3) (K := 1) (bytes := 8) [iI 0,iI 1,iI 8,iI 64,iI 65535] (rs := ([0,1,8,64,65535] : List Int).map az) rfl rfl) ?_
 intro g905
 exact ao (en [1,2,3,0] <| kF 2 0 [0,3,4,7,24,27,28,31,32,34,39,40,43]) (by kernel_rfl) (hD18 (g905))
 refine du 23 ⟨85,eb⟩ _ rfl (by kernel_rfl) (by kernel_rfl) (by kernel_rfl) (by kernel_rfl) rfl ?_
 exact ao (kF 3 0 [0,3,4,7,8,24,27,28,31,32,34,39,43]) (by kernel_rfl) (hD22 ())
theorem fW {g : Nat} {J : List Int} {A : Option Addr} {cap : Nat} {x : Con} {xV : Value} {w0 : World} {fs : List Fact} {B : Nat} (hB : B ≤ w0.heap.size) (hap : ¬ (sQ A J cap).blk g)  (hn : J.length ≤ 1048576 := by omega) (h1 : cF B g A J cap ∈ fs := by simp) (h2 : sQ A J cap ∈ fs := by simp) : XCM Try.prog w0 fs (cF B g A J cap).blk 44 [gP g, .agg (a6 x xV).toArray] (α := {y : Seg // y.body.size ≤ 4096}) (fun y => .agg (bE y.1).toArray) (fun _ => [cF B g A J cap]) := cE fun w hw hf => l19Segment_c g J A cap x xV w B (Nat.le_trans hB hw) (hf _ h1) (hf _ h2) hap hn  
theorem l19Conn_c (g : Nat) (J : List Int) (A : Option Addr) (cap : Nat) (w : World) (B : Nat) (hB : B ≤ w.heap.size) (hc : (cF B g A J cap).p w) (hl : Sl w (sJ A J cap) 1 (J.map bR)) (hap : ¬ (sQ A J cap).blk g) (hn : J.length ≤ 1048576) : Calls Try.prog 24 #[gP g] w fun e w' => ∃ y : {y : Con × (Option Addr × Nat) // RB 4 y.1.r}, e = .returned (.agg (a6 y.1.1 (.slice y.1.2.1 y.1.1.r.held.length y.1.2.2)).toArray) ∧ (cF B g A J cap).p w' ∧ (eF w.heap.size (.slice y.1.2.1 y.1.1.r.held.length y.1.2.2) 2 (y.1.1.r.held.map pC)).p w' ∧ g < w.heap.size ∧ Chgd (fun b => b = g) w w' := by
 have hq_code := Sl.capLe hl
 have hBw : B ≤ (aw w B).heap.size := Nat.le_of_eq (aW hB).symm
 have hlo : ∀ (ww : World) (b : Nat),(cF B g A J cap).p ww → (cF B g A J cap).blk b → (aw w B).heap.size ≤ b := fun ww b h hb => Nat.le_trans (bC w B) (cQ h hb)
 refine eI (args := [gP g]) (fn := Try.f24) [cF B g A J cap,sQ A J cap,bd w (fun b => b = g)] B Try.func24 rfl Try.ntmps24 rfl hB (by simp only [List.mem_cons,List.not_mem_nil,or_false,forall_eq_or_imp,forall_eq]; exact ⟨hc,hl,bn w _⟩) (bX hap rfl) ?_
 have hgl : g < w.heap.size := (cF B g A J cap).lt w g hc rfl
 refine kQ <| cv [0,2] ⟨[(0,aP g),(2,.p 0 0)],[⟨50,ce⟩],[],[cF B g A J cap,sQ A J cap,bd w (fun b => b = g)]⟩ <| kQ <| d2 1 [0,2,6] [(6,aP g)] 18 [gP g] (some 7) 0 rfl rfl hlo (fh hBw hap) ?_
 rintro ⟨y1,hy1⟩
 refine d2 1 [0,2,7,8] [(8,aP g)] 36 [gP g] (some 9) 0 rfl rfl hlo (cM hBw hap) ?_
 rintro ⟨y2,hy2⟩
 refine d2 1 [0,2,7,9,10] [(10,aP g)] 36 [gP g] (some 11) 0 rfl rfl hlo (cM hBw hap) ?_
 rintro ⟨y3,hy3⟩
 refine d2 1 [0,2,7,9,11,12] [(12,aP g)] 37 [gP g] (some 13) 0 rfl rfl hlo (l8Options_c_K hBw hap) ?_
 rintro ⟨y4,hy4⟩
 refine kHD 1 [0,2,7,9,11,13,14] [(14,aP g)] rfl (aQ (e := 3) (K := 1) (bytes := 8) [iI 0,iI 4,iI 64,iI 65535] (rs := ([0,4,64,65535] : List Int).map az) rfl rfl) ?_
 intro g5
 refine dj (φ := ¬ (bz (.slice (some ⟨g5,0,none⟩) 4 4) 1 (([0,4,64,65535] : List Int).map az)).blk g) (fun _ _ _ _ hr => fun hb => hr.2.apart 0 1 (a9 (aw w B).heap.size 3 1 (.slice (some ⟨g5,0,none⟩) 4 4) (([0,4,64,65535] : List Int).map az)) (cF B g A J cap) rfl rfl (by decide) rfl g (bf hb) rfl) (fun hk6 => ?_)
 refine d2 0 [0,2,7,9,11,13,14,15] [] 19 [gP g,.slice (some ⟨g5,0,none⟩) 4 4] (some 16) 1 rfl rfl hlo (aL hBw hap (fun ww hw hf => (au (hf _ m0))) hk6 (by simp)) ?_
 rintro ⟨y7,hy7⟩
 refine dZ 0 [0,2,7,9,11,13,16] [] 35 [.agg (bV y1).toArray,iI y2,iI y3,.agg (dI y4).toArray,iI y7] (some 17) rfl (cm fun ww hw hf => ysConnNew_c y1 y2 y3 y4 y7 ww   ((aw w B).heap.size) hw) ?_
 rintro ⟨v8a,v8c⟩
 have hbd9 : (cY y1 y2 y3 y4 y7).r.held.length ≤ 1048576 := connNew_bd _ _ _ _ _  (by omega)
 refine kEA [0,2,3] [(3,.p 1 0)] [⟨50,a6 (cY y1 y2 y3 y4 y7) (.slice v8a ((cY y1 y2 y3 y4 y7).r.held.length) v8c)⟩] <| kQ <| d2 1 [0,2,3,18] [(18,aP g)] 16 [gP g,iI 9] (some 19) 1 rfl rfl hlo (av hBw hap) ?_
 rintro ⟨y10,hy10⟩
 obtain ⟨hy100,hy101⟩ := hy10
 refine aU [0,2,3,4] [(4,aI y10)] <| kS <| kQ <| aD [0,2,3,4,5] [(0,aP g),(2,.p 0 0),(3,.p 1 0),(4,aI y10),(5,aI 0)] ?_
 refine aj <| bI (α := {x : Nat × Con × Option Addr × Nat // (fun (i : Nat) (x : Con) (A1 : Option Addr) (c1 : Nat) => (i : Int) ≤ y10 ∧ RB 3 x.r) x.1 x.2.1 x.2.2.1 x.2.2.2}) (fun x => (fun (i : Nat) (x : Con) (A1 : Option Addr) (c1 : Nat) => (⟨[(0,aP g),(2,.p 0 0),(3,.p 1 0),(4,aI y10),(5,aI (i : Int))],[⟨50,ce⟩,⟨50,a6 x (cS A1 x c1)⟩],[],[aC (aw w B).heap.size (cS A1 x c1) 2 (x.r.held.map pC),cF B g A J cap,a9 (aw w B).heap.size 3 1 (.slice (some ⟨g5,0,none⟩) 4 4) (([0,4,64,65535] : List Int).map az),sQ A J cap,bd w (fun b => b = g)]⟩ : St)) x.1.1 x.1.2.1 x.1.2.2.1 x.1.2.2.2) (fun x => (fun (i : Nat) (x : Con) (A1 : Option Addr) (c1 : Nat) => (y10).toNat - i) x.1.1 x.1.2.1 x.1.2.2.1 x.1.2.2.2) ⟨(0,(cY y1 y2 y3 y4 y7),v8a,v8c),⟨(by omega),RB.newC _ _ _ _ _⟩⟩ (en [1,0,2,3,4] <| kF 2 0 [0,2,3,4,5]) ?_
 rintro ⟨⟨i,x,A1,c1⟩,hi,hrb⟩
 try dsimp only
 try dsimp only at hi hrb
 have hkn := hrb.up.kn; have hm := hrb.hm; have hsz := hrb.sz
 refine kS <| kQ <| aU [0,2,3,4,5,22] [(22,aB (decide ((i : Int) < y10)))] <| kC (decide ((i : Int) < y10)) (fun h11 => ?_) (fun h11 => ?_)
 have h11p := of_decide_eq_true h11
 have hlt :  (i : Int) < y10 := of_decide_eq_true h11
 refine kK <| kS <| d9 (α := {zz : Con × Option Addr × Nat // (fun (x2 : Con) (A4 : Option Addr) (c4 : Nat) => RB 3 x2.r) zz.1 zz.2.1 zz.2.2}) (fun zz => (fun (x2 : Con) (A4 : Option Addr) (c4 : Nat) => (⟨[(0,aP g),(2,.p 0 0),(3,.p 1 0),(4,aI y10),(5,aI (i : Int))],[⟨50,ce⟩,⟨50,a6 x2 (cS A4 x2 c4)⟩],[],[aC (aw w B).heap.size (cS A4 x2 c4) 2 (x2.r.held.map pC),cF B g A J cap,a9 (aw w B).heap.size 3 1 (.slice (some ⟨g5,0,none⟩) 4 4) (([0,4,64,65535] : List Int).map az),sQ A J cap,bd w (fun b => b = g)]⟩ : St)) zz.1.1 zz.1.2.1 zz.1.2.2) ?_ ?_
 refine aj <| kQ <| d2 1 [0,2,3,4,5,25] [(25,aP g)] 16 [gP g,iI 8] (some 26) 1 rfl rfl hlo (av hBw hap) ?_
 rintro ⟨y12,hy12⟩
 obtain ⟨hy120,hy121⟩ := hy12
 refine aU [0,2,3,4,5,26] [] <| aj <| kQ <| aU [0,2,3,4,5,26,36] [(36,aB (y12 == 0))] ?_
 refine kC (y12 == 0) (fun h13 => ?_) (fun h13 => ?_)
 have h13p := cN h13
 refine bw [true,false] (by kernel_rfl) (fun ρ σ => ?_)
 refine d3 [1,2] [41,40,0,2,3,4,5] 10 [(41,aP g),(40,aP g)] <| kA [0,3] ⟨?_,?_⟩
 refine e6 0 (.v (.agg (a6 x (cS A1 x c1)).toArray)) rfl <| kA [3] <| eD 3 16 [gP g,iI 20] (some 42) 0 rfl rfl hlo (a5 (aq rfl a7)) (av hBw hap) ?_
 rintro ⟨y14,hy14⟩
 obtain ⟨hy140,hy141⟩ := hy14
 refine kA [4] <| eD 4 39 [gP g,iI y14] (some 43) 0 rfl rfl hlo (a5 (aq rfl a7)) (eT fun ww hw hf => eJ g J A cap y14 ww B (Nat.le_trans (by first | exact Nat.le_refl _ | exact Nat.le_of_eq (aW hB).symm) hw) (hf (cF B g A J cap) (by simp)) (hf _ m3) hap (by omega) (by omega)) ?_
 rintro ⟨⟨b15l,b15a,b15c⟩,hb15⟩
 dsimp only at hb15
 refine kA [5] <| kSR 5 (.string (ai b15l)) rfl (fun _ _ ww hr => cG (e := 5) b15l hr.1 rfl (by kernel_rfl) (by kernel_rfl) (by kernel_rfl) rfl (au (hr.2.fact (a9 (aw w B).heap.size 5 1 (.slice b15a b15l.length b15c) (b15l.map bR)) (by simp)).1)) ?_
 refine kA [6] <| d8 6 38 [.agg (a6 x (cS A1 x c1)).toArray,.string (ai b15l)] (some 45) rfl (cm fun ww hw hf => ysWrite_c x (cS A1 x c1) (ai b15l) ww (Own.sl (hf _ m2)) (by assumption) (by assumption) (by omega) (by first | omega | (rw [cU]; omega) | decide) ((aw w B).heap.size) hw) ?_
 rintro ⟨⟨v16a,v16c⟩,⟨v17a,v17c⟩⟩
 have hbd18 : (write x (ai b15l)).1.r.held.length ≤ 1048576 ∧ (write x (ai b15l)).2.2.length ≤ 49 := write_bd _ _  (by omega)
 have hbd18a := hbd18.1; have hbd18b := hbd18.2
 refine d3 [7,8,9,10] [46,0,2,3,4,5] 1 [(46,.v (.agg (a6 (write x (ai b15l)).1 (.slice v16a ((write x (ai b15l)).1.r.held.length) v16c)).toArray))] <| kA [11] <| dp 11 1 0 (a6 (write x (ai b15l)).1 (.slice v16a ((write x (ai b15l)).1.r.held.length) v16c)) rfl <| kZ ?_
 exact ⟨⟨((write x (ai b15l)).1,v16a,v16c),(by first | exact RB.write hrb _ | exact RB.tick hrb | exact RB.shut hrb | exact RB.read hrb _ | exact RB.recv hrb (by omega) _ | exact hrb)⟩,en [0,3,5,6,7] <| kF 2 0 [0,2,3,4,5]⟩
 refine eD 3 16 [gP g,iI 20] (some 42) 0 rfl rfl hlo (a5 (aq rfl a7)) (av hBw hap) ?_
 rintro ⟨y19,hy19⟩
 obtain ⟨hy190,hy191⟩ := hy19
 refine kA [0,4] ⟨?_,?_⟩
 refine e6 0 (.v (.agg (a6 x (cS A1 x c1)).toArray)) rfl <| kA [4] <| eD 4 39 [gP g,iI y19] (some 43) 0 rfl rfl hlo (a5 (aq rfl a7)) (eT fun ww hw hf => eJ g J A cap y19 ww B (Nat.le_trans (by first | exact Nat.le_refl _ | exact Nat.le_of_eq (aW hB).symm) hw) (hf (cF B g A J cap) (by simp)) (hf _ m3) hap (by omega) (by omega)) ?_
 rintro ⟨⟨b20l,b20a,b20c⟩,hb20⟩
 dsimp only at hb20
 refine kA [5] <| kSR 5 (.string (ai b20l)) rfl (fun _ _ ww hr => cG (e := 5) b20l hr.1 rfl (by kernel_rfl) (by kernel_rfl) (by kernel_rfl) rfl (au (hr.2.fact (a9 (aw w B).heap.size 5 1 (.slice b20a b20l.length b20c) (b20l.map bR)) (by simp)).1)) ?_
 refine kA [6] <| d8 6 38 [.agg (a6 x (cS A1 x c1)).toArray,.string (ai b20l)] (some 45) rfl (cm fun ww hw hf => ysWrite_c x (cS A1 x c1) (ai b20l) ww (Own.sl (hf _ m2)) (by assumption) (by assumption) (by omega) (by first | omega | (rw [cU]; omega) | decide) ((aw w B).heap.size) hw) ?_
 rintro ⟨⟨v21a,v21c⟩,⟨v22a,v22c⟩⟩
 have hbd23 : (write x (ai b20l)).1.r.held.length ≤ 1048576 ∧ (write x (ai b20l)).2.2.length ≤ 49 := write_bd _ _  (by omega)
 have hbd23a := hbd23.1; have hbd23b := hbd23.2
 refine d3 [7,8,9,10] [46,0,2,3,4,5] 1 [(46,.v (.agg (a6 (write x (ai b20l)).1 (.slice v21a ((write x (ai b20l)).1.r.held.length) v21c)).toArray))] <| kA [11] <| dp 11 1 0 (a6 (write x (ai b20l)).1 (.slice v21a ((write x (ai b20l)).1.r.held.length) v21c)) rfl <| kZ ?_
 exact ⟨⟨((write x (ai b20l)).1,v21a,v21c),(by first | exact RB.write hrb _ | exact RB.tick hrb | exact RB.shut hrb | exact RB.read hrb _ | exact RB.recv hrb (by omega) _ | exact hrb)⟩,en [0,3,5,6,7] <| kF 2 0 [0,2,3,4,5]⟩
 refine eD 4 39 [gP g,iI y19] (some 43) 0 rfl rfl hlo (a5 (aq rfl a7)) (eT fun ww hw hf => eJ g J A cap y19 ww B (Nat.le_trans (by first | exact Nat.le_refl _ | exact Nat.le_of_eq (aW hB).symm) hw) (hf (cF B g A J cap) (by simp)) (hf _ m3) hap (by omega) (by omega)) ?_
 rintro ⟨⟨b24l,b24a,b24c⟩,hb24⟩
 dsimp only at hb24
 refine kA [0,5] ⟨?_,?_⟩
 refine e6 0 (.v (.agg (a6 x (cS A1 x c1)).toArray)) rfl <| kA [5] <| kSR 5 (.string (ai b24l)) rfl (fun _ _ ww hr => cG (e := 5) b24l hr.1 rfl (by kernel_rfl) (by kernel_rfl) (by kernel_rfl) rfl (au (hr.2.fact (a9 (aw w B).heap.size 5 1 (.slice b24a b24l.length b24c) (b24l.map bR)) (by simp)).1)) ?_
 refine kA [6] <| d8 6 38 [.agg (a6 x (cS A1 x c1)).toArray,.string (ai b24l)] (some 45) rfl (cm fun ww hw hf => ysWrite_c x (cS A1 x c1) (ai b24l) ww (Own.sl (hf _ m2)) (by assumption) (by assumption) (by omega) (by first | omega | (rw [cU]; omega) | decide) ((aw w B).heap.size) hw) ?_
 rintro ⟨⟨v25a,v25c⟩,⟨v26a,v26c⟩⟩
 have hbd27 : (write x (ai b24l)).1.r.held.length ≤ 1048576 ∧ (write x (ai b24l)).2.2.length ≤ 49 := write_bd _ _  (by omega)
 have hbd27a := hbd27.1; have hbd27b := hbd27.2
 refine d3 [7,8,9,10] [46,0,2,3,4,5] 1 [(46,.v (.agg (a6 (write x (ai b24l)).1 (.slice v25a ((write x (ai b24l)).1.r.held.length) v25c)).toArray))] <| kA [11] <| dp 11 1 0 (a6 (write x (ai b24l)).1 (.slice v25a ((write x (ai b24l)).1.r.held.length) v25c)) rfl <| kZ ?_
 exact ⟨⟨((write x (ai b24l)).1,v25a,v25c),(by first | exact RB.write hrb _ | exact RB.tick hrb | exact RB.shut hrb | exact RB.read hrb _ | exact RB.recv hrb (by omega) _ | exact hrb)⟩,en [0,3,5,6,7] <| kF 2 0 [0,2,3,4,5]⟩
 refine kSR 5 (.string (ai b24l)) rfl (fun _ _ ww hr => cG (e := 5) b24l hr.1 rfl (by kernel_rfl) (by kernel_rfl) (by kernel_rfl) rfl (au (hr.2.fact (a9 (aw w B).heap.size 5 1 (.slice b24a b24l.length b24c) (b24l.map bR)) (by simp)).1)) ?_
 refine kA [0] <| e6 0 (.v (.agg (a6 x (cS A1 x c1)).toArray)) rfl <| kA [6] <| d8 6 38 [.agg (a6 x (cS A1 x c1)).toArray,.string (ai b24l)] (some 45) rfl (cm fun ww hw hf => ysWrite_c x (cS A1 x c1) (ai b24l) ww (Own.sl (hf _ m2)) (by assumption) (by assumption) (by omega) (by first | omega | (rw [cU]; omega) | decide) ((aw w B).heap.size) hw) ?_
 rintro ⟨⟨v28a,v28c⟩,⟨v29a,v29c⟩⟩
 have hbd30 : (write x (ai b24l)).1.r.held.length ≤ 1048576 ∧ (write x (ai b24l)).2.2.length ≤ 49 := write_bd _ _  (by omega)
 have hbd30a := hbd30.1; have hbd30b := hbd30.2
 refine d3 [7,8,9,10] [46,0,2,3,4,5] 1 [(46,.v (.agg (a6 (write x (ai b24l)).1 (.slice v28a ((write x (ai b24l)).1.r.held.length) v28c)).toArray))] <| kA [11] <| dp 11 1 0 (a6 (write x (ai b24l)).1 (.slice v28a ((write x (ai b24l)).1.r.held.length) v28c)) rfl <| kZ ?_
 exact ⟨⟨((write x (ai b24l)).1,v28a,v28c),(by first | exact RB.write hrb _ | exact RB.tick hrb | exact RB.shut hrb | exact RB.read hrb _ | exact RB.recv hrb (by omega) _ | exact hrb)⟩,en [0,3,5,6,7] <| kF 2 0 [0,2,3,4,5]⟩
 have h13p := cI h13
 refine kQ <| aU [0,2,3,4,5,26,49] [(49,aB (y12 == 1))] <| kC (y12 == 1) (fun h31 => ?_) (fun h31 => ?_)
 have h31p := cN h31
 refine kG <| dZ 1 [0,2,3,4,5,52] [(52,.v (.agg (a6 x (cS A1 x c1)).toArray))] 40 [.agg (a6 x (cS A1 x c1)).toArray] (some 53) rfl (cm fun ww hw hf => ysTickConn_c x (cS A1 x c1) ww (Own.sl (hf _ m1)) (by assumption) (by assumption) (by omega) ((aw w B).heap.size) hw) ?_
 rintro ⟨⟨v32a,v32c⟩,⟨v33a,v33c⟩⟩
 have hbd34 : (aT x).1.r.held.length ≤ 1048576 ∧ (aT x).2.length ≤ 49 := tickConn_bd _  (by omega)
 have hbd34a := hbd34.1; have hbd34b := hbd34.2
 refine ba [0,2,3,4,5] [] 1 ⟨50,a6 (aT x).1 (.slice v32a ((aT x).1.r.held.length) v32c)⟩ ?_
 exact ⟨⟨((aT x).1,v32a,v32c),(by first | exact RB.write hrb _ | exact RB.tick hrb | exact RB.shut hrb | exact RB.read hrb _ | exact RB.recv hrb (by omega) _ | exact hrb)⟩,en [0,2,4,5,6] <| kF 2 0 [0,2,3,4,5]⟩
 have h31p := cI h31
 refine kQ <| aU [0,2,3,4,5,26,56] [(56,aB (y12 == 2))] <| kC (y12 == 2) (fun h35 => ?_) (fun h35 => ?_)
 have h35p := cN h35
 refine kQ <| d2 1 [0,2,3,4,5,58] [(58,aP g)] 26 [gP g,iI 2] (some 59) 0 rfl rfl hlo (bo hBw hap) ?_
 rintro ⟨y36,hy36⟩
 refine aU [0,2,3,4,5,59] [] <| kC (y36) (fun h37 => ?_) (fun h37 => ?_)
 refine kG <| dZ 1 [0,2,3,4,5,61] [(61,.v (.agg (a6 x (cS A1 x c1)).toArray))] 41 [.agg (a6 x (cS A1 x c1)).toArray] (some 62) rfl (cm fun ww hw hf => ysShut_c x (cS A1 x c1) ww (Own.sl (hf _ m1)) (by assumption) (by assumption) (by omega) ((aw w B).heap.size) hw) ?_
 rintro ⟨⟨v38a,v38c⟩,⟨v39a,v39c⟩⟩
 have hbd40 : (shut x).1.r.held.length ≤ 1048576 ∧ (shut x).2.length ≤ 49 := shut_bd _  (by omega)
 have hbd40a := hbd40.1; have hbd40b := hbd40.2
 refine ba [0,2,3,4,5] [] 1 ⟨50,a6 (shut x).1 (.slice v38a ((shut x).1.r.held.length) v38c)⟩ ?_
 exact ⟨⟨((shut x).1,v38a,v38c),(by first | exact RB.write hrb _ | exact RB.tick hrb | exact RB.shut hrb | exact RB.read hrb _ | exact RB.recv hrb (by omega) _ | exact hrb)⟩,en [0,2,4,5,6] <| kF 2 0 [0,2,3,4,5]⟩
 refine kK ?_
 exact ⟨⟨(x,A1,c1),(by first | exact RB.write hrb _ | exact RB.tick hrb | exact RB.shut hrb | exact RB.read hrb _ | exact RB.recv hrb (by omega) _ | exact hrb)⟩,en [1,0,2,3,4] <| kF 2 0 [0,2,3,4,5]⟩
 have h35p := cI h35
 refine kQ <| aU [0,2,3,4,5,65] [(65,aB (y12 == 3))] <| kC (y12 == 3) (fun h41 => ?_) (fun h41 => ?_)
 have h41p := cN h41
 refine bw [true,false] (by kernel_rfl) (fun ρ σ => ?_)
 refine d3 [1] [69,0,2,3,4,5] 8 [(69,aP g)] <| kA [0,2] ⟨?_,?_⟩
 refine e6 0 (.v (.agg (a6 x (cS A1 x c1)).toArray)) rfl <| kA [2] <| eD 2 16 [gP g,iI 9] (some 70) 0 rfl rfl hlo (a5 (aq rfl a7)) (av hBw hap) ?_
 rintro ⟨y42,hy42⟩
 obtain ⟨hy420,hy421⟩ := hy42
 refine kA [3] <| d8 3 42 [.agg (a6 x (cS A1 x c1)).toArray,iI y42] (some 71) rfl (cm fun ww hw hf => ysReadConn_c x (cS A1 x c1) y42 ww (Own.sl (hf _ m1)) (by assumption) (by assumption) (by omega) ((aw w B).heap.size) hw) ?_
 rintro ⟨⟨v43a,v43c⟩,⟨v44a,v44c⟩⟩
 have hbd45 : (bu x y42).1.r.held.length ≤ 1048576 ∧ (bu x y42).2.2.length ≤ 1 := readConn_bd _ _  (by omega)
 have hbd45a := hbd45.1; have hbd45b := hbd45.2
 refine d3 [4,5,6,7] [72,0,2,3,4,5] 1 [(72,.v (.agg (a6 (bu x y42).1 (.slice v43a ((bu x y42).1.r.held.length) v43c)).toArray))] <| kA [8] <| dp 8 1 0 (a6 (bu x y42).1 (.slice v43a ((bu x y42).1.r.held.length) v43c)) rfl <| kZ ?_
 exact ⟨⟨((bu x y42).1,v43a,v43c),(by first | exact RB.write hrb _ | exact RB.tick hrb | exact RB.shut hrb | exact RB.read hrb _ | exact RB.recv hrb (by omega) _ | exact hrb)⟩,en [0,2,4,5,6] <| kF 2 0 [0,2,3,4,5]⟩
 refine eD 2 16 [gP g,iI 9] (some 70) 0 rfl rfl hlo (a5 (aq rfl a7)) (av hBw hap) ?_
 rintro ⟨y46,hy46⟩
 obtain ⟨hy460,hy461⟩ := hy46
 refine kA [0] <| e6 0 (.v (.agg (a6 x (cS A1 x c1)).toArray)) rfl <| kA [3] <| d8 3 42 [.agg (a6 x (cS A1 x c1)).toArray,iI y46] (some 71) rfl (cm fun ww hw hf => ysReadConn_c x (cS A1 x c1) y46 ww (Own.sl (hf _ m1)) (by assumption) (by assumption) (by omega) ((aw w B).heap.size) hw) ?_
 rintro ⟨⟨v47a,v47c⟩,⟨v48a,v48c⟩⟩
 have hbd49 : (bu x y46).1.r.held.length ≤ 1048576 ∧ (bu x y46).2.2.length ≤ 1 := readConn_bd _ _  (by omega)
 have hbd49a := hbd49.1; have hbd49b := hbd49.2
 refine d3 [4,5,6,7] [72,0,2,3,4,5] 1 [(72,.v (.agg (a6 (bu x y46).1 (.slice v47a ((bu x y46).1.r.held.length) v47c)).toArray))] <| kA [8] <| dp 8 1 0 (a6 (bu x y46).1 (.slice v47a ((bu x y46).1.r.held.length) v47c)) rfl <| kZ ?_
 exact ⟨⟨((bu x y46).1,v47a,v47c),(by first | exact RB.write hrb _ | exact RB.tick hrb | exact RB.shut hrb | exact RB.read hrb _ | exact RB.recv hrb (by omega) _ | exact hrb)⟩,en [0,2,4,5,6] <| kF 2 0 [0,2,3,4,5]⟩
 have h41p := cI h41
 refine bw [true,false] (by kernel_rfl) (fun ρ σ => ?_)
 refine d3 [1] [29,0,2,3,4,5] 9 [(29,aP g)] <| kA [0,2] ⟨?_,?_⟩
 refine e6 0 (.v (.agg (a6 x (cS A1 x c1)).toArray)) rfl <| kA [2] <| e6 2 (.v (.agg (a6 x (cS A1 x c1)).toArray)) rfl <| kA [3] ?_
 refine eD 3 44 [gP g,.agg (a6 x (cS A1 x c1)).toArray] (some 31) 0 rfl rfl hlo (a5 (aq rfl a7)) (fW hBw hap) ?_
 rintro ⟨y50,hy50⟩
 refine kA [4] <| d8 4 43 [.agg (a6 x (cS A1 x c1)).toArray,.agg (bE y50).toArray] (some 32) rfl (cm fun ww hw hf => ysReceive_c x (cS A1 x c1) y50 ww (Own.sl (hf _ m1)) (by assumption) (by omega) (by assumption) (by omega) ((aw w B).heap.size) hw) ?_
 rintro ⟨⟨v51a,v51c⟩,⟨v52a,v52c⟩⟩
 refine d3 [5,6,7,8] [33,0,2,3,4,5] 1 [(33,.v (.agg (a6 (ae x y50).1 (.slice v51a ((ae x y50).1.r.held.length) v51c)).toArray))] <| kA [9] <| dp 9 1 0 (a6 (ae x y50).1 (.slice v51a ((ae x y50).1.r.held.length) v51c)) rfl <| kZ ?_
 exact ⟨⟨((ae x y50).1,v51a,v51c),(by first | exact RB.write hrb _ | exact RB.tick hrb | exact RB.shut hrb | exact RB.read hrb _ | exact RB.recv hrb (by omega) _ | exact hrb)⟩,en [0,2,4,5,6] <| kF 2 0 [0,2,3,4,5]⟩
 refine e6 2 (.v (.agg (a6 x (cS A1 x c1)).toArray)) rfl <| kA [0,3] ⟨?_,?_⟩
 refine e6 0 (.v (.agg (a6 x (cS A1 x c1)).toArray)) rfl <| kA [3] <| eD 3 44 [gP g,.agg (a6 x (cS A1 x c1)).toArray] (some 31) 0 rfl rfl hlo (a5 (aq rfl a7)) (fW hBw hap) ?_
 rintro ⟨y53,hy53⟩
 refine kA [4] <| d8 4 43 [.agg (a6 x (cS A1 x c1)).toArray,.agg (bE y53).toArray] (some 32) rfl (cm fun ww hw hf => ysReceive_c x (cS A1 x c1) y53 ww (Own.sl (hf _ m1)) (by assumption) (by omega) (by assumption) (by omega) ((aw w B).heap.size) hw) ?_
 rintro ⟨⟨v54a,v54c⟩,⟨v55a,v55c⟩⟩
 refine d3 [5,6,7,8] [33,0,2,3,4,5] 1 [(33,.v (.agg (a6 (ae x y53).1 (.slice v54a ((ae x y53).1.r.held.length) v54c)).toArray))] <| kA [9] <| dp 9 1 0 (a6 (ae x y53).1 (.slice v54a ((ae x y53).1.r.held.length) v54c)) rfl <| kZ ?_
 exact ⟨⟨((ae x y53).1,v54a,v54c),(by first | exact RB.write hrb _ | exact RB.tick hrb | exact RB.shut hrb | exact RB.read hrb _ | exact RB.recv hrb (by omega) _ | exact hrb)⟩,en [0,2,4,5,6] <| kF 2 0 [0,2,3,4,5]⟩
 refine eD 3 44 [gP g,.agg (a6 x (cS A1 x c1)).toArray] (some 31) 0 rfl rfl hlo (a5 (aq rfl a7)) (fW hBw hap) ?_
 rintro ⟨y56,hy56⟩
 refine kA [0] <| e6 0 (.v (.agg (a6 x (cS A1 x c1)).toArray)) rfl <| kA [4] <| d8 4 43 [.agg (a6 x (cS A1 x c1)).toArray,.agg (bE y56).toArray] (some 32) rfl (cm fun ww hw hf => ysReceive_c x (cS A1 x c1) y56 ww (Own.sl (hf _ m1)) (by assumption) (by omega) (by assumption) (by omega) ((aw w B).heap.size) hw) ?_
 rintro ⟨⟨v57a,v57c⟩,⟨v58a,v58c⟩⟩
 refine d3 [5,6,7,8] [33,0,2,3,4,5] 1 [(33,.v (.agg (a6 (ae x y56).1 (.slice v57a ((ae x y56).1.r.held.length) v57c)).toArray))] <| kA [9] <| dp 9 1 0 (a6 (ae x y56).1 (.slice v57a ((ae x y56).1.r.held.length) v57c)) rfl <| kZ ?_
 exact ⟨⟨((ae x y56).1,v57a,v57c),(by first | exact RB.write hrb _ | exact RB.tick hrb | exact RB.shut hrb | exact RB.read hrb _ | exact RB.recv hrb (by omega) _ | exact hrb)⟩,en [0,2,4,5,6] <| kF 2 0 [0,2,3,4,5]⟩
 rintro ⟨⟨x2,A4,c4⟩,hr2⟩
 try dsimp only
 try dsimp only at hr2
 refine kG <| dK 3 [0,2,3,4,5] [(5,aI (K6.wrap ((i : Int) + 1)))] <| cJ [0,2,3,4,5] [(5,aI (K6.wrap ((i : Int) + 1)))] [(5,aI ((i : Int) + 1))] (by rw [show (K6.wrap ((i : Int) + 1)) = ((i : Int) + 1) from al (by omega) (by omega)]) (by kernel_rfl) ?_
 refine aU [0,2,3,4,5] [] ?_
 exact ⟨⟨(i + 1,x2,A4,c4),⟨(by omega),hr2⟩⟩,kF 2 0 [0,2,3,4,5],by show (fun (i : Nat) (x : Con) (A1 : Option Addr) (c1 : Nat) => (y10).toNat - i) (i + 1) x2 A4 c4 < (y10).toNat - i; (dsimp only; omega)⟩
 have h11p := of_decide_eq_false h11
 have hge : ¬ (i : Int) < y10 := of_decide_eq_false h11
 refine c5 <| kQ <| ba [2] [(2,.p 0 0)] 0 ⟨50,a6 x (cS A1 x c1)⟩ <| kR ?_
 exact ⟨[.agg (a6 x (cS A1 x c1)).toArray],by kernel_rfl,fun w' hb hf ha => ⟨⟨(x,A1,c1),hrb.up⟩,rfl,hf (cF B g A J cap) (by simp),newF_own (hf (aC (aw w B).heap.size (cS A1 x c1) 2 (x.r.held.map pC)) (by simp)) (aF ha (i := 0) (j := 1) (k := 4) rfl rfl rfl rfl (by decide) (by decide)),hgl,ar (hf (bd w (fun b => b = g)) (by simp)) hb rfl rfl rfl⟩⟩
theorem l19Bent_c (g : Nat) (J : List Int) (A : Option Addr) (cap : Nat) (w : World) (B : Nat) (hB : B ≤ w.heap.size) (hc : (cF B g A J cap).p w) (hl : Sl w (sJ A J cap) 1 (J.map bR)) (hap : ¬ (sQ A J cap).blk g) (hn : J.length ≤ 1048576) : Calls Try.prog 17 #[gP g] w fun e w' => ∃ y : {y : Con × (Option Addr × Nat) // RB 4 y.1.r}, e = .returned (.agg (a6 y.1.1 (.slice y.1.2.1 y.1.1.r.held.length y.1.2.2)).toArray) ∧ (cF B g A J cap).p w' ∧ (eF w.heap.size (.slice y.1.2.1 y.1.1.r.held.length y.1.2.2) 2 (y.1.1.r.held.map pC)).p w' ∧ g < w.heap.size ∧ Chgd (fun b => b = g) w w' := by
 have hq_code := Sl.capLe hl
 have hBw : B ≤ (aw w B).heap.size := Nat.le_of_eq (aW hB).symm
 have hlo : ∀ (ww : World) (b : Nat),(cF B g A J cap).p ww → (cF B g A J cap).blk b → (aw w B).heap.size ≤ b := fun ww b h hb => Nat.le_trans (bC w B) (cQ h hb)
 refine eI (args := [gP g]) (fn := Try.f17) [cF B g A J cap,sQ A J cap,bd w (fun b => b = g)] B Try.func17 rfl Try.ntmps17 rfl hB (by simp only [List.mem_cons,List.not_mem_nil,or_false,forall_eq_or_imp,forall_eq]; exact ⟨hc,hl,bn w _⟩) (bX hap rfl) ?_
 have hgl : g < w.heap.size := (cF B g A J cap).lt w g hc rfl
 refine kQ <| cv [0,2] ⟨[(0,aP g),(2,.p 0 0)],[⟨50,ce⟩],[],[cF B g A J cap,sQ A J cap,bd w (fun b => b = g)]⟩ <| kQ <| d2 1 [0,2,4] [(4,aP g)] 24 [gP g] (some 5) 0 rfl rfl hlo (xcm_curN fun ww hw hf => l19Conn_c g J A cap ww B (Nat.le_trans (by first | exact Nat.le_refl _ | exact Nat.le_of_eq (aW hB).symm) hw) (hf (cF B g A J cap) (by simp)) (hf _ m1) hap (by omega)) ?_
 rintro ⟨⟨b1m,b1a,b1c⟩,hb1⟩
 dsimp only at hb1
 have hb1n := hb1.1
 refine kEA [0,2,3] [(3,.p 1 0)] [⟨50,a6 b1m (cS b1a b1m b1c)⟩] <| kS <| kQ <| d2 1 [0,2,3,6] [(6,aP g)] 16 [gP g,iI 16] (some 7) 1 rfl rfl hlo (av hBw hap) ?_
 rintro ⟨y2,hy2⟩
 obtain ⟨hy20,hy21⟩ := hy2
 refine aU [0,2,3,7] [] <| aj <| kQ <| aU [0,2,3,7,8] [(8,aB (y2 == 0))] ?_
 refine kC (y2 == 0) (fun h3 => ?_) (fun h3 => ?_)
 have h3p := cN h3
 refine kG <| d2 1 [2,3,10] [(10,aP g)] 16 [gP g,iI 11] (some 11) 0 rfl rfl hlo (av hBw hap) ?_
 rintro ⟨y4,hy4⟩
 obtain ⟨hy40,hy41⟩ := hy4
 refine ba [2,3] [] 1 ⟨50,a6 { b1m with state := K6.wrap (y4 - 1) } (cS b1a b1m b1c)⟩ <| kQ <| ba [2] [(2,.p 0 0)] 0 ⟨50,a6 { b1m with state := K6.wrap (y4 - 1) } (cS b1a b1m b1c)⟩ <| kR ?_
 exact ⟨[.agg (a6 { b1m with state := K6.wrap (y4 - 1) } (cS b1a b1m b1c)).toArray],by kernel_rfl,fun w' hb hf ha => ⟨⟨({ b1m with state := K6.wrap (y4 - 1) },b1a,b1c),hb1⟩,rfl,hf (cF B g A J cap) (by simp),eg (hf (eF (aw w B).heap.size (cS b1a b1m b1c) 2 (b1m.r.held.map pC)) (by simp)) (aF ha (i := 1) (j := 0) (k := 3) rfl rfl rfl rfl (by decide) (by decide)),hgl,ar (hf (bd w (fun b => b = g)) (by simp)) hb rfl rfl rfl⟩⟩
 have h3p := cI h3
 refine kQ <| aU [0,2,3,7,14] [(14,aB (y2 == 1))] <| kC (y2 == 1) (fun h5 => ?_) (fun h5 => ?_)
 have h5p := cN h5
 refine kG <| d2 1 [2,3,16] [(16,aP g)] 28 [gP g] (some 17) 0 rfl rfl hlo (l17Bent_c_K hBw hap) ?_
 rintro ⟨y6,hy6⟩
 refine ba [2,3] [] 1 ⟨50,a6 { b1m with s := y6 } (cS b1a b1m b1c)⟩ <| kQ <| ba [2] [(2,.p 0 0)] 0 ⟨50,a6 { b1m with s := y6 } (cS b1a b1m b1c)⟩ <| kR ?_
 exact ⟨[.agg (a6 { b1m with s := y6 } (cS b1a b1m b1c)).toArray],by kernel_rfl,fun w' hb hf ha => ⟨⟨({ b1m with s := y6 },b1a,b1c),hb1⟩,rfl,hf (cF B g A J cap) (by simp),eg (hf (eF (aw w B).heap.size (cS b1a b1m b1c) 2 (b1m.r.held.map pC)) (by simp)) (aF ha (i := 1) (j := 0) (k := 3) rfl rfl rfl rfl (by decide) (by decide)),hgl,ar (hf (bd w (fun b => b = g)) (by simp)) hb rfl rfl rfl⟩⟩
 have h5p := cI h5
 refine kQ <| aU [0,2,3,7,19] [(19,aB (y2 == 2))] <| kC (y2 == 2) (fun h7 => ?_) (fun h7 => ?_)
 have h7p := cN h7
 refine kG <| d2 1 [2,3,21] [(21,aP g)] 29 [gP g] (some 22) 0 rfl rfl hlo (eT fun ww hw hf => l18Bent_c g J A cap ww B (Nat.le_trans (by first | exact Nat.le_refl _ | exact Nat.le_of_eq (aW hB).symm) hw) (hf (cF B g A J cap) (by simp)) (hf _ m2) hap (by omega)) ?_
 rintro ⟨⟨b8m,b8a,b8c⟩,hb8⟩
 dsimp only at hb8
 have hb8n := hb8.1
 refine ba [2,3] [] 1 ⟨50,a6 { b1m with r := b8m } (.slice b8a b8m.held.length b8c)⟩ <| kQ <| ba [2] [(2,.p 0 0)] 0 ⟨50,a6 { b1m with r := b8m } (.slice b8a b8m.held.length b8c)⟩ <| kR ?_
 exact ⟨[.agg (a6 { b1m with r := b8m } (.slice b8a b8m.held.length b8c)).toArray],by kernel_rfl,fun w' hb hf ha => ⟨⟨({ b1m with r := b8m },b8a,b8c),hb8⟩,rfl,hf (cF B g A J cap) (by simp),newF_row (hf (a9 (aw w B).heap.size 72 2 (.slice b8a b8m.held.length b8c) (b8m.held.map pC)) (by simp)) (aF ha (i := 0) (j := 1) (k := 4) rfl rfl rfl rfl (by decide) (by decide)),hgl,ar (hf (bd w (fun b => b = g)) (by simp)) hb rfl rfl rfl⟩⟩
 have h7p := cI h7
 refine kQ <| aU [0,2,3,7,24] [(24,aB (y2 == 3))] <| kC (y2 == 3) (fun h9 => ?_) (fun h9 => ?_)
 have h9p := cN h9
 refine kG <| kHD 6 [2,3,26,28,31] [(26,aP g),(28,aI b1m.most),(31,aI (K6.wrap (b1m.most + 1)))] rfl (aQ (e := 3) (K := 1) (bytes := 8) [iI (-1),iI 0,iI b1m.most,iI (K6.wrap (b1m.most + 1))] (rs := ([(-1),0,b1m.most,K6.wrap (b1m.most + 1)] : List Int).map az) rfl rfl) ?_
 intro g10
 refine dj (φ := ¬ (bz (.slice (some ⟨g10,0,none⟩) 4 4) 1 (([(-1),0,b1m.most,K6.wrap (b1m.most + 1)] : List Int).map az)).blk g) (fun _ _ _ _ hr => fun hb => hr.2.apart 0 1 (a9 (aw w B).heap.size 3 1 (.slice (some ⟨g10,0,none⟩) 4 4) (([(-1),0,b1m.most,K6.wrap (b1m.most + 1)] : List Int).map az)) (cF B g A J cap) rfl rfl (by decide) rfl g (bf hb) rfl) (fun hk11 => ?_)
 refine d2 0 [2,3,26,32] [] 19 [gP g,.slice (some ⟨g10,0,none⟩) 4 4] (some 33) 1 rfl rfl hlo (aL hBw hap (fun ww hw hf => (au (hf _ m0))) hk11 (by simp)) ?_
 rintro ⟨y12,hy12⟩
 refine cv [2,3] ⟨[(2,.p 0 0),(3,.p 1 0)],[⟨50,ce⟩,⟨50,a6 { b1m with window := y12 } (cS b1a b1m b1c)⟩],[],[cF B g A J cap,a9 (aw w B).heap.size 3 1 (.slice (some ⟨g10,0,none⟩) 4 4) (([(-1),0,b1m.most,K6.wrap (b1m.most + 1)] : List Int).map az),eF (aw w B).heap.size (cS b1a b1m b1c) 2 (b1m.r.held.map pC),sQ A J cap,bd w (fun b => b = g)]⟩ <| kQ <| ba [2] [(2,.p 0 0)] 0 ⟨50,a6 { b1m with window := y12 } (cS b1a b1m b1c)⟩ <| kR ?_
 exact ⟨[.agg (a6 { b1m with window := y12 } (cS b1a b1m b1c)).toArray],by kernel_rfl,fun w' hb hf ha => ⟨⟨({ b1m with window := y12 },b1a,b1c),hb1⟩,rfl,hf (cF B g A J cap) (by simp),eg (hf (eF (aw w B).heap.size (cS b1a b1m b1c) 2 (b1m.r.held.map pC)) (by simp)) (aF ha (i := 2) (j := 0) (k := 4) rfl rfl rfl rfl (by decide) (by decide)),hgl,ar (hf (bd w (fun b => b = g)) (by simp)) hb rfl rfl rfl⟩⟩
 have h9p := cI h9
 refine kQ <| aU [0,2,3,7,35] [(35,aB (y2 == 4))] <| kC (y2 == 4) (fun h13 => ?_) (fun h13 => ?_)
 have h13p := cN h13
 refine kG <| kHD 1 [2,3,37] [(37,aP g)] rfl (aQ (e := 3) (K := 1) (bytes := 8) [iI (-1),iI 0,iI 3,iI 4,iI 5] (rs := ([(-1),0,3,4,5] : List Int).map az) rfl rfl) ?_
 intro g14
 refine dj (φ := ¬ (bz (.slice (some ⟨g14,0,none⟩) 5 5) 1 (([(-1),0,3,4,5] : List Int).map az)).blk g) (fun _ _ _ _ hr => fun hb => hr.2.apart 0 1 (a9 (aw w B).heap.size 3 1 (.slice (some ⟨g14,0,none⟩) 5 5) (([(-1),0,3,4,5] : List Int).map az)) (cF B g A J cap) rfl rfl (by decide) rfl g (bf hb) rfl) (fun hk15 => ?_)
 refine kWS 0 [2,3,37,38] [(2,.p 0 0),(3,.p 1 0),(37,aP g),(38,.v (.slice (some ⟨g14,0,none⟩) 5 5))] 19 [gP g,.slice (some ⟨g14,0,none⟩) 5 5] (some 39) 1 rfl rfl hlo (aL hBw hap (fun ww hw hf => (au (hf _ m0))) hk15 (by simp)) ?_
 rintro ⟨y16,hy16⟩
 refine ba [2,3] [] 1 ⟨50,a6 { b1m with timer := y16 } (cS b1a b1m b1c)⟩ <| kQ <| ba [2] [(2,.p 0 0)] 0 ⟨50,a6 { b1m with timer := y16 } (cS b1a b1m b1c)⟩ <| kR ?_
 exact ⟨[.agg (a6 { b1m with timer := y16 } (cS b1a b1m b1c)).toArray],by kernel_rfl,fun w' hb hf ha => ⟨⟨({ b1m with timer := y16 },b1a,b1c),hb1⟩,rfl,hf (cF B g A J cap) (by simp),eg (hf (eF (aw w B).heap.size (cS b1a b1m b1c) 2 (b1m.r.held.map pC)) (by simp)) (aF ha (i := 2) (j := 0) (k := 4) rfl rfl rfl rfl (by decide) (by decide)),hgl,ar (hf (bd w (fun b => b = g)) (by simp)) hb rfl rfl rfl⟩⟩
 have h13p := cI h13
 refine kQ <| aU [0,2,3,7,41] [(41,aB (y2 == 5))] <| kC (y2 == 5) (fun h17 => ?_) (fun h17 => ?_)
 have h17p := cN h17
 refine kG <| kHS 1 [2,3,43] [(2,.p 0 0),(3,.p 1 0),(43,aP g)] rfl (aQ (e := 3) (K := 1) (bytes := 8) [iI (-1),iI 0,iI 3,iI 4] (rs := ([(-1),0,3,4] : List Int).map az) rfl rfl) ?_
 intro g18
 refine dj (φ := ¬ (bz (.slice (some ⟨g18,0,none⟩) 4 4) 1 (([(-1),0,3,4] : List Int).map az)).blk g) (fun _ _ _ _ hr => fun hb => hr.2.apart 0 1 (a9 (aw w B).heap.size 3 1 (.slice (some ⟨g18,0,none⟩) 4 4) (([(-1),0,3,4] : List Int).map az)) (cF B g A J cap) rfl rfl (by decide) rfl g (bf hb) rfl) (fun hk19 => ?_)
 refine d2 0 [2,3,43,44] [] 19 [gP g,.slice (some ⟨g18,0,none⟩) 4 4] (some 45) 1 rfl rfl hlo (aL hBw hap (fun ww hw hf => (au (hf _ m0))) hk19 (by simp)) ?_
 rintro ⟨y20,hy20⟩
 refine ba [2,3] [] 1 ⟨50,a6 { b1m with tries := y20 } (cS b1a b1m b1c)⟩ <| kQ <| ba [2] [(2,.p 0 0)] 0 ⟨50,a6 { b1m with tries := y20 } (cS b1a b1m b1c)⟩ <| kR ?_
 exact ⟨[.agg (a6 { b1m with tries := y20 } (cS b1a b1m b1c)).toArray],by kernel_rfl,fun w' hb hf ha => ⟨⟨({ b1m with tries := y20 },b1a,b1c),hb1⟩,rfl,hf (cF B g A J cap) (by simp),eg (hf (eF (aw w B).heap.size (cS b1a b1m b1c) 2 (b1m.r.held.map pC)) (by simp)) (aF ha (i := 2) (j := 0) (k := 4) rfl rfl rfl rfl (by decide) (by decide)),hgl,ar (hf (bd w (fun b => b = g)) (by simp)) hb rfl rfl rfl⟩⟩
 have h17p := cI h17
 refine kQ <| aD [0,2,3,7,47] [(0,aP g),(2,.p 0 0),(3,.p 1 0),(7,aI y2),(47,aB (y2 == 6))] <| kC (y2 == 6) (fun h21 => ?_) (fun h21 => ?_)
 have h21p := cN h21
 refine kG <| d2 1 [2,3,49] [(49,aP g)] 30 [gP g] (some 50) 0 rfl rfl hlo (l8Bent_c_K hBw hap) ?_
 rintro ⟨y22,hy22⟩
 refine ba [2,3] [] 1 ⟨50,a6 { b1m with o := y22 } (cS b1a b1m b1c)⟩ <| kQ <| ba [2] [(2,.p 0 0)] 0 ⟨50,a6 { b1m with o := y22 } (cS b1a b1m b1c)⟩ <| kR ?_
 exact ⟨[.agg (a6 { b1m with o := y22 } (cS b1a b1m b1c)).toArray],by kernel_rfl,fun w' hb hf ha => ⟨⟨({ b1m with o := y22 },b1a,b1c),hb1⟩,rfl,hf (cF B g A J cap) (by simp),eg (hf (eF (aw w B).heap.size (cS b1a b1m b1c) 2 (b1m.r.held.map pC)) (by simp)) (aF ha (i := 1) (j := 0) (k := 3) rfl rfl rfl rfl (by decide) (by decide)),hgl,ar (hf (bd w (fun b => b = g)) (by simp)) hb rfl rfl rfl⟩⟩
 have h21p := cI h21
 refine kQ <| aU [0,2,3,52] [(52,aB (y2 == 7))] <| kC (y2 == 7) (fun h23 => ?_) (fun h23 => ?_)
 have h23p := cN h23
 refine kG <| d2 1 [2,3,54] [(54,aP g)] 31 [gP g] (some 55) 0 rfl rfl hlo (l12Bent_c_K hBw hap) ?_
 rintro ⟨y24,hy24⟩
 refine ba [2,3] [] 1 ⟨50,a6 { b1m with t := y24 } (cS b1a b1m b1c)⟩ <| kQ <| ba [2] [(2,.p 0 0)] 0 ⟨50,a6 { b1m with t := y24 } (cS b1a b1m b1c)⟩ <| kR ?_
 exact ⟨[.agg (a6 { b1m with t := y24 } (cS b1a b1m b1c)).toArray],by kernel_rfl,fun w' hb hf ha => ⟨⟨({ b1m with t := y24 },b1a,b1c),hb1⟩,rfl,hf (cF B g A J cap) (by simp),eg (hf (eF (aw w B).heap.size (cS b1a b1m b1c) 2 (b1m.r.held.map pC)) (by simp)) (aF ha (i := 1) (j := 0) (k := 3) rfl rfl rfl rfl (by decide) (by decide)),hgl,ar (hf (bd w (fun b => b = g)) (by simp)) hb rfl rfl rfl⟩⟩
 have h23p := cI h23
 refine kK <| kQ <| ba [2] [(2,.p 0 0)] 0 ⟨50,a6 b1m (cS b1a b1m b1c)⟩ <| kR ?_
 exact ⟨[.agg (a6 b1m (cS b1a b1m b1c)).toArray],by kernel_rfl,fun w' hb hf ha => ⟨⟨(b1m,b1a,b1c),hb1⟩,rfl,hf (cF B g A J cap) (by simp),eg (hf (eF (aw w B).heap.size (cS b1a b1m b1c) 2 (b1m.r.held.map pC)) (by simp)) (aF ha (i := 1) (j := 0) (k := 3) rfl rfl rfl rfl (by decide) (by decide)),hgl,ar (hf (bd w (fun b => b = g)) (by simp)) hb rfl rfl rfl⟩⟩
theorem sameTable_self (a : Tab) : aO a a = true := by
 unfold aO
 rw [sameL_yes rfl fun i x y h1 h2 => by rw [h1] at h2; simp only [Option.some.injEq] at h2; subst h2; exact sameConn_self _,sameL_yes rfl fun i x y h1 h2 => by rw [h1] at h2; simp only [Option.some.injEq] at h2; subst h2; simp [bG]]
 rfl
theorem sameTable_eq {a b : Tab} (h : pl a.conns = pl b.conns) (hw : a.waiting = b.waiting) : aO a b = true := by
 rw [sameTable_pl (a := a) (a' := b) (b := b) (b' := b) h hw rfl rfl]; exact sameTable_self b
theorem l25Limits_c (g : Nat) (J : List Int) (A : Option Addr) (cap : Nat)  (w : World) (B : Nat) (hB : B ≤ w.heap.size) (hc : (cF B g A J cap).p w) (hl : Sl w (sJ A J cap) 1 (J.map bR)) (hap : ¬ (sQ A J cap).blk g) (hn : J.length ≤ 1048576)  : Calls Try.prog 14 #[gP g] w fun e w' => ∃ y : {y : Lim // True}, e = .returned (.agg (bA y.1).toArray) ∧ (cF B g A J cap).p w' ∧ Chgd (fun b => b = g) w w' := by
 have hq_code := Sl.capLe hl
 have hBw : B ≤ (aw w B).heap.size := Nat.le_of_eq (aW hB).symm
 have hlo : ∀ (ww : World) (b : Nat),(cF B g A J cap).p ww → (cF B g A J cap).blk b → (aw w B).heap.size ≤ b := fun ww b h hb => Nat.le_trans (bC w B) (cQ h hb)
 refine ci (args := [gP g]) (fn := Try.f14) [cF B g A J cap,sQ A J cap,bd w (fun b => b = g)] B Try.func14 rfl Try.ntmps14 rfl hB (by simp only [List.mem_cons,List.not_mem_nil,or_false,forall_eq_or_imp,forall_eq]; exact ⟨hc,hl,bn w _⟩) (bX hap rfl) ?_
 refine kQ <| cv [0,2] ⟨[(0,aP g),(2,.p 0 0)],[⟨35,[iI 0,iI 0,iI 0,iI 0]⟩],[],[cF B g A J cap,sQ A J cap,bd w (fun b => b = g)]⟩ <| kQ <| d2 1 [0,2,3] [(3,aP g)] 16 [gP g,iI 3] (some 4) 0 rfl rfl hlo (av hBw hap) ?_
 rintro ⟨y1,hy1⟩
 obtain ⟨hy10,hy11⟩ := hy1
 refine d2 2 [0,2,5,6] [(5,aI (K6.wrap (1 + y1))),(6,aP g)] 16 [gP g,iI 3] (some 7) 0 rfl rfl hlo (av hBw hap) ?_
 rintro ⟨y2,hy2⟩
 obtain ⟨hy20,hy21⟩ := hy2
 refine d2 2 [0,2,5,8,9] [(8,aI (K6.wrap (1 + y2))),(9,aP g)] 16 [gP g,iI 4] (some 10) 0 rfl rfl hlo (av hBw hap) ?_
 rintro ⟨y3,hy3⟩
 obtain ⟨hy30,hy31⟩ := hy3
 refine d2 2 [2,5,8,11,12] [(11,aI (K6.wrap (1 + y3))),(12,aP g)] 16 [gP g,iI 4] (some 13) 0 rfl rfl hlo (av hBw hap) ?_
 rintro ⟨y4,hy4⟩
 obtain ⟨hy40,hy41⟩ := hy4
 refine fD 0 [2,5,8,11,13] [] (.agg #[iI (K6.wrap (1 + y1)),iI (K6.wrap (1 + y2)),iI (K6.wrap (1 + y3)),iI y4]) rfl (fun _ _ _ ww hr => aH [(0,iI (K6.wrap (1 + y1))),(1,iI (K6.wrap (1 + y2))),(2,iI (K6.wrap (1 + y3))),(3,iI y4)] hr.1 rfl (by kernel_rfl) (by kernel_rfl) ww) ?_
 refine kRB 1 [2] [(2,.p 0 0)] [⟨35,[iI (K6.wrap (1 + y1)),iI (K6.wrap (1 + y2)),iI (K6.wrap (1 + y3)),iI y4]⟩] <| xl_eq (st' := ⟨[(2,.p 0 0)],[⟨35,[iI (1 + y1),iI (1 + y2),iI (1 + y3),iI y4]⟩],[],[cF B g A J cap,sQ A J cap,bd w (fun b => b = g)]⟩) (by rw [show (K6.wrap (1 + y3)) = (1 + y3) from al (by omega) (by omega),show (K6.wrap (1 + y2)) = (1 + y2) from al (by omega) (by omega),show (K6.wrap (1 + y1)) = (1 + y1) from al (by omega) (by omega)] <;> rfl) ?_
 refine aD [2] [(2,.p 0 0)] <| kR ?_
 exact ⟨[.agg #[iI (1 + y1),iI (1 + y2),iI (1 + y3),iI y4]],by kernel_rfl,fun w' hb hf => ⟨⟨⟨1 + y1,1 + y2,1 + y3,y4⟩,trivial⟩,rfl,hf (cF B g A J cap) (by simp),ar (hf (bd w (fun b => b = g)) (by simp)) hb rfl rfl rfl⟩⟩
theorem l25Limits_c_K {g : Nat} {J : List Int} {A : Option Addr} {cap : Nat}  {w0 : World} {fs : List Fact} {B : Nat} (hB : B ≤ w0.heap.size) (hap : ¬ (sQ A J cap).blk g)  (hn : J.length ≤ 1048576 := by omega) (h1 : cF B g A J cap ∈ fs := by simp) (h2 : sQ A J cap ∈ fs := by simp) : XCM Try.prog w0 fs (cF B g A J cap).blk 14 [gP g] (α := {y : Lim // True}) (fun y => .agg (bA y.1).toArray) (fun _ => [cF B g A J cap]) := cE fun w hw hf => l25Limits_c g J A cap  w B (Nat.le_trans hB hw) (hf _ h1) (hf _ h2) hap hn  
theorem l25Table_c (g : Nat) (J : List Int) (A : Option Addr) (cap : Nat) (l : Lim) (w : World) (B : Nat) (hB : B ≤ w.heap.size) (hc : (cF B g A J cap).p w) (hl : Sl w (sJ A J cap) 1 (J.map bR)) (hap : ¬ (sQ A J cap).blk g) (hn : J.length ≤ 1048576) : Calls Try.prog 15 #[gP g, .agg (bA l).toArray] w fun e w' => ∃ y : {y : List CV × (Option Addr × Nat) × List Tup × (Option Addr × Nat) // (∀ x ∈ y.1, bO x.1) ∧ y.1.length ≤ 3 ∧ y.2.2.1.length ≤ 3}, e = .returned (.agg #[.slice y.1.2.1.1 y.1.1.length y.1.2.1.2, .slice y.1.2.2.2.1 y.1.2.2.1.length y.1.2.2.2.2]) ∧ (cF B g A J cap).p w' ∧ (a9 w.heap.size 50 25 (.slice y.1.2.1.1 y.1.1.length y.1.2.1.2) (y.1.1.map ak)).p w' ∧ (fQ w.heap.size y.1.1).p w' ∧ (a9 w.heap.size 30 3 (.slice y.1.2.2.2.1 y.1.2.2.1.length y.1.2.2.2.2) (y.1.2.2.1.map a8)).p w' ∧ Apart [a9 w.heap.size 50 25 (.slice y.1.2.1.1 y.1.1.length y.1.2.1.2) (y.1.1.map ak), fQ w.heap.size y.1.1, a9 w.heap.size 30 3 (.slice y.1.2.2.2.1 y.1.2.2.1.length y.1.2.2.2.2) (y.1.2.2.1.map a8)] ∧ g < w.heap.size ∧ Chgd (fun b => b = g) w w' := by
 have hq_code := Sl.capLe hl
 have hBw : B ≤ (aw w B).heap.size := Nat.le_of_eq (aW hB).symm
 have hlo : ∀ (ww : World) (b : Nat),(cF B g A J cap).p ww → (cF B g A J cap).blk b → (aw w B).heap.size ≤ b := fun ww b h hb => Nat.le_trans (bC w B) (cQ h hb)
 refine eI (args := [gP g,.agg (bA l).toArray]) (fn := Try.f15) [cF B g A J cap,sQ A J cap,bd w (fun b => b = g)] B Try.func15 rfl Try.ntmps15 rfl hB (by simp only [List.mem_cons,List.not_mem_nil,or_false,forall_eq_or_imp,forall_eq]; exact ⟨hc,hl,bn w _⟩) (bX hap rfl) ?_
 have hgl : g < w.heap.size := (cF B g A J cap).lt w g hc rfl
 refine kQ <| cv [0,3,4] ⟨[(0,aP g),(3,.p 0 0),(4,.p 1 0)],[⟨35,bA l⟩,⟨27,[.slice none 0 0,.slice none 0 0]⟩],[],[cF B g A J cap,sQ A J cap,bd w (fun b => b = g)]⟩ <| kQ <| fD 0 [0,3,4] [] (.agg #[.slice none 0 0,.slice none 0 0]) rfl (fun _ _ _ ww hr => aH [] hr.1 rfl (by kernel_rfl) (by kernel_rfl) ww) ?_
 refine kEA [0,3,4,5] [(5,.p 2 0)] [⟨27,[.slice none 0 0,.slice none 0 0]⟩] <| kQ <| d2 1 [0,3,4,5,10] [(10,aP g)] 16 [gP g,iI 4] (some 11) 0 rfl rfl hlo (av hBw hap) ?_
 rintro ⟨y1,hy1⟩
 obtain ⟨hy10,hy11⟩ := hy1
 refine aU [0,3,4,5,6] [(6,aI y1)] <| kS <| kQ <| aU [0,3,4,5,6,7] [(7,aI 0)] ?_
 refine aj <| gh (a9 (aw w B).heap.size 30 3 (.slice none 0 0) []) (fun ww hww => nilF_p _ _ ww hww) (fun b => nilF_b _ _ _ b) <| gh (cd (aw w B).heap.size ([])) hownF_nilp (fun b => hownF_nob) <| gh (a9 (aw w B).heap.size 50 25 (.slice none 0 0) []) (fun ww hww => nilF_p _ _ ww hww) (fun b => nilF_b _ _ _ b) ?_
 refine bI (α := {x : Nat × List CV × Option Addr × Nat × List Tup × Option Addr × Nat // (fun (i : Nat) (cs : List CV) (At : Option Addr) (ct : Nat) (W : List Tup) (Aw : Option Addr) (cw : Nat) => (i : Int) ≤ y1 ∧ (∀ x ∈ cs,bO x.1) ∧ cs.length ≤ i ∧ W.length ≤ i) x.1 x.2.1 x.2.2.1 x.2.2.2.1 x.2.2.2.2.1 x.2.2.2.2.2.1 x.2.2.2.2.2.2}) (fun x => (fun (i : Nat) (cs : List CV) (At : Option Addr) (ct : Nat) (W : List Tup) (Aw : Option Addr) (cw : Nat) => (⟨[(0,aP g),(3,.p 0 0),(4,.p 1 0),(5,.p 2 0),(6,aI y1),(7,aI (i : Int))],[⟨35,bA l⟩,⟨27,[.slice none 0 0,.slice none 0 0]⟩,⟨27,[.slice At cs.length ct,.slice Aw W.length cw]⟩],[],[a9 (aw w B).heap.size 50 25 (.slice At cs.length ct) (cs.map ak),cd (aw w B).heap.size cs,a9 (aw w B).heap.size 30 3 (.slice Aw W.length cw) (W.map a8),cF B g A J cap,sQ A J cap,bd w (fun b => b = g)]⟩ : St)) x.1.1 x.1.2.1 x.1.2.2.1 x.1.2.2.2.1 x.1.2.2.2.2.1 x.1.2.2.2.2.2.1 x.1.2.2.2.2.2.2) (fun x => (fun (i : Nat) (cs : List CV) (At : Option Addr) (ct : Nat) (W : List Tup) (Aw : Option Addr) (cw : Nat) => (y1).toNat - i) x.1.1 x.1.2.1 x.1.2.2.1 x.1.2.2.2.1 x.1.2.2.2.2.1 x.1.2.2.2.2.2.1 x.1.2.2.2.2.2.2) ⟨(0,([] : List CV),none,0,([] : List Tup),none,0),⟨(by omega),(fun x hx => by simp at hx),Nat.le_refl 0,Nat.le_refl 0⟩⟩ (kF 3 0 [0,3,4,5,6,7]) ?_
 rintro ⟨⟨i,cs,At,ct,W,Aw,cw⟩,hi,hfit,hcl,hwl⟩
 try dsimp only
 try dsimp only at hi hfit hcl hwl
 refine kS <| kQ <| aU [0,3,4,5,6,7,14] [(14,aB (decide ((i : Int) < y1)))] <| kC (decide ((i : Int) < y1)) (fun h2 => ?_) (fun h2 => ?_)
 have h2p := of_decide_eq_true h2
 have hlt :  (i : Int) < y1 := of_decide_eq_true h2
 refine kK <| kS <| aj <| kQ <| d2 1 [0,3,4,5,6,7,17] [(17,aP g)] 24 [gP g] (some 18) 3 rfl rfl hlo (xcm_curN fun ww hw hf => l19Conn_c g J A cap ww B (Nat.le_trans (by first | exact Nat.le_refl _ | exact Nat.le_of_eq (aW hB).symm) hw) (hf (cF B g A J cap) (by simp)) (hf _ m4) hap (by omega)) ?_
 rintro ⟨⟨b3m,b3a,b3c⟩,hb3⟩
 dsimp only at hb3
 have hb3n := hb3.1
 have hfc_b3m : bO b3m := RB.fit hb3
 refine kEA [0,3,4,5,6,7,8] [(8,.p 3 0)] [⟨50,a6 b3m (cS b3a b3m b3c)⟩] <| kQ <| dZ 3 [0,3,4,5,6,7,20,21,22] [(20,.v (.agg #[.slice At cs.length ct,.slice Aw W.length cw])),(21,.v (.agg (a6 b3m (cS b3a b3m b3c)).toArray)),(22,.v (.agg (bA l).toArray))] 25 [.agg #[.slice At cs.length ct,.slice Aw W.length cw],.agg (a6 b3m (cS b3a b3m b3c)).toArray,.agg (bA l).toArray] (some 23) rfl (cm fun ww hw hf => ysPutConn_c (⟨cs,W⟩) (.slice At cs.length ct) (.slice Aw W.length cw) b3m (cS b3a b3m b3c) l ww (au (hf _ m2)) (hownF_sl (hf _ m3)) (au (hf _ m4)) (hf _ m0).1 (by first | assumption | (dsimp only; assumption)) (by first | assumption | omega | (dsimp only; omega)) (by first | assumption | omega | (dsimp only; omega)) (by assumption) ((aw w B).heap.size) hw) ?_
 rintro ⟨⟨t4l,ht4l⟩,⟨t4a,t4c⟩,⟨t4d,t4e⟩⟩
 dsimp only
 have hfit_t4l : ∀ x ∈ t4l,bO x.1 := fit_of ht4l (putP_fit (t := (⟨cs,W⟩)) hfit hfc_b3m)
 have hlen_t4l : t4l.length ≤ i + 1 := by have h1 := putP_len1 (⟨cs,W⟩) b3m l; rw [← len_of ht4l] at h1; dsimp only at h1; omega
 have hwl_t4l : (fJ (⟨cs,W⟩) b3m l).length ≤ i + 1 := by have h1 := putW_len1 (⟨cs,W⟩) b3m l; dsimp only at h1; omega
 refine ba [0,3,4,5,6,7] [] 2 ⟨27,[.slice t4a t4l.length t4c,.slice t4d ((fJ (⟨cs,W⟩) b3m l).length) t4e]⟩ <| kQ <| kWS 1 [0,3,4,5,6,7,26] [(0,aP g),(3,.p 0 0),(4,.p 1 0),(5,.p 2 0),(6,aI y1),(7,aI (i : Int)),(26,aP g)] 26 [gP g,iI 3] (some 27) 4 rfl rfl hlo (bo hBw hap) ?_
 rintro ⟨y5,hy5⟩
 refine aU [0,3,4,5,6,7,27] [] <| kC (y5) (fun h6 => ?_) (fun h6 => ?_)
 refine kG <| dZ 1 [0,3,4,5,6,7,29] [(29,.v (.agg #[.slice t4a t4l.length t4c,.slice t4d ((fJ (⟨cs,W⟩) b3m l).length) t4e]))] 7 [.agg #[.slice t4a t4l.length t4c,.slice t4d ((fJ (⟨cs,W⟩) b3m l).length) t4e]] (some 30) rfl (cm fun ww hw hf => ysTakeWaiting_c (⟨t4l,(fJ (⟨cs,W⟩) b3m l)⟩) (.slice t4a t4l.length t4c) (.slice t4d ((fJ (⟨cs,W⟩) b3m l).length) t4e) ww (au (hf _ m1)) (hownF_sl (hf _ m2)) (au (hf _ m3)) (by first | assumption | (dsimp only; assumption)) (by first | assumption | omega | (dsimp only; omega)) (by first | assumption | omega | (dsimp only; omega)) ((aw w B).heap.size) hw) ?_
 rintro ⟨⟨t7l,ht7l⟩,⟨t7a,t7c⟩,⟨t7d,t7e⟩⟩
 dsimp only
 have hfit_t7l : ∀ x ∈ t7l,bO x.1 := gv ht7l hfit_t4l
 have hlen_t7l : t7l.length ≤ i + 1 := by have h1 := pl_len ht7l; dsimp only at h1; omega
 have hwl_t7l : (cq (⟨t4l,(fJ (⟨cs,W⟩) b3m l)⟩)).length ≤ i + 1 := by have h1 := takeW_le (⟨t4l,(fJ (⟨cs,W⟩) b3m l)⟩); dsimp only at h1; omega
 refine ba [0,3,4,5,6,7] [] 2 ⟨27,[.slice t7a t7l.length t7c,.slice t7d ((cq (⟨t4l,(fJ (⟨cs,W⟩) b3m l)⟩)).length) t7e]⟩ <| kG <| dK 3 [0,3,4,5,6,7] [(7,aI (K6.wrap ((i : Int) + 1)))] <| cJ [0,3,4,5,6,7] [(7,aI (K6.wrap ((i : Int) + 1)))] [(7,aI ((i : Int) + 1))] (by rw [show (K6.wrap ((i : Int) + 1)) = ((i : Int) + 1) from al (by omega) (by omega)]) (by kernel_rfl) ?_
 refine aU [0,3,4,5,6,7] [] ?_
 exact ⟨⟨(i + 1,t7l,t7a,t7c,(cq (⟨t4l,(fJ (⟨cs,W⟩) b3m l)⟩)),t7d,t7e),⟨(by omega),hfit_t7l,hlen_t7l,hwl_t7l⟩⟩,en [0,1,2,3,11,12] <| kF 3 0 [0,3,4,5,6,7],by show (fun (i : Nat) (cs : List CV) (At : Option Addr) (ct : Nat) (W : List Tup) (Aw : Option Addr) (cw : Nat) => (y1).toNat - i) (i + 1) t7l t7a t7c (cq (⟨t4l,(fJ (⟨cs,W⟩) b3m l)⟩)) t7d t7e < (y1).toNat - i; (dsimp only; omega)⟩
 refine kK <| kG <| dK 3 [0,3,4,5,6,7] [(7,aI (K6.wrap ((i : Int) + 1)))] <| cJ [0,3,4,5,6,7] [(7,aI (K6.wrap ((i : Int) + 1)))] [(7,aI ((i : Int) + 1))] (by rw [show (K6.wrap ((i : Int) + 1)) = ((i : Int) + 1) from al (by omega) (by omega)]) (by kernel_rfl) ?_
 refine aU [0,3,4,5,6,7] [] ?_
 exact ⟨⟨(i + 1,t4l,t4a,t4c,(fJ (⟨cs,W⟩) b3m l),t4d,t4e),⟨(by omega),hfit_t4l,hlen_t4l,hwl_t4l⟩⟩,en [1,2,3,0,8,9] <| kF 3 0 [0,3,4,5,6,7],by show (fun (i : Nat) (cs : List CV) (At : Option Addr) (ct : Nat) (W : List Tup) (Aw : Option Addr) (cw : Nat) => (y1).toNat - i) (i + 1) t4l t4a t4c (fJ (⟨cs,W⟩) b3m l) t4d t4e < (y1).toNat - i; (dsimp only; omega)⟩
 have h2p := of_decide_eq_false h2
 have hge : ¬ (i : Int) < y1 := of_decide_eq_false h2
 refine c5 <| kQ <| ba [4] [(4,.p 1 0)] 1 ⟨27,[.slice At cs.length ct,.slice Aw W.length cw]⟩ <| kR ?_
 exact ⟨[.agg #[.slice At cs.length ct,.slice Aw W.length cw]],by kernel_rfl,fun w' hb hf ha => ⟨⟨(cs,(At,ct),W,(Aw,cw)),(by dsimp only; exact ⟨hfit,by omega,by omega⟩)⟩,rfl,hf (cF B g A J cap) (by simp),bv (hf (a9 (aw w B).heap.size 50 25 (.slice At cs.length ct) (cs.map ak)) (by simp)) (aF ha (i := 0) (j := 3) (k := 5) rfl rfl rfl rfl (by decide) (by decide)),d6 (hwF_hown (hf (cd (aw w B).heap.size cs) (by simp))) (fun b hb => (aF ha (i := 1) (j := 3) (k := 5) rfl rfl rfl rfl (by decide) (by decide)) b (hwF_hblk hb)),bv (hf (a9 (aw w B).heap.size 30 3 (.slice Aw W.length cw) (W.map a8)) (by simp)) (aF ha (i := 2) (j := 3) (k := 5) rfl rfl rfl rfl (by decide) (by decide)),Apart.sub3 ha [0,1,2] rfl (by decide) rfl rfl rfl (fun b h => h) (fun b h => hwF_hblk h) (fun b h => h),hgl,ar (hf (bd w (fun b => b = g)) (by simp)) hb rfl rfl rfl⟩⟩
theorem fit_app {L : List CV} {x : CV} (h : ∀ x ∈ L, bO x.1) (hc : bO x.1) : ∀ y ∈ L ++ [x], bO y.1 := fun y hy => by
 rcases List.mem_append.1 hy with hy | hy
 · exact h y hy
 · rw [List.mem_singleton] at hy; subst hy; exact hc
theorem l25Bent_c (g : Nat) (J : List Int) (A : Option Addr) (cap : Nat)  (w : World) (B : Nat) (hB : B ≤ w.heap.size) (hc : (cF B g A J cap).p w) (hl : Sl w (sJ A J cap) 1 (J.map bR)) (hap : ¬ (sQ A J cap).blk g) (hn : J.length ≤ 1048576) : Calls Try.prog 9 #[gP g] w fun e w' => ∃ y : {y : List CV × (Option Addr × Nat) × List Tup × (Option Addr × Nat) × Lim // (∀ x ∈ y.1, bO x.1) ∧ y.1.length ≤ 4 ∧ y.2.2.1.length ≤ 4}, e = .returned (.tuple #[.agg #[.slice y.1.2.1.1 y.1.1.length y.1.2.1.2, .slice y.1.2.2.2.1.1 y.1.2.2.1.length y.1.2.2.2.1.2], .agg (bA y.1.2.2.2.2).toArray]) ∧ (cF B g A J cap).p w' ∧ (a9 w.heap.size 50 25 (.slice y.1.2.1.1 y.1.1.length y.1.2.1.2) (y.1.1.map ak)).p w' ∧ (fQ w.heap.size y.1.1).p w' ∧ (a9 w.heap.size 30 3 (.slice y.1.2.2.2.1.1 y.1.2.2.1.length y.1.2.2.2.1.2) (y.1.2.2.1.map a8)).p w' ∧ Apart [a9 w.heap.size 50 25 (.slice y.1.2.1.1 y.1.1.length y.1.2.1.2) (y.1.1.map ak), fQ w.heap.size y.1.1, a9 w.heap.size 30 3 (.slice y.1.2.2.2.1.1 y.1.2.2.1.length y.1.2.2.2.1.2) (y.1.2.2.1.map a8)] ∧ g < w.heap.size ∧ Chgd (fun b => b = g) w w' := by
 have hq_code := Sl.capLe hl
 have hBw : B ≤ (aw w B).heap.size := Nat.le_of_eq (aW hB).symm
 have hlo : ∀ (ww : World) (b : Nat),(cF B g A J cap).p ww → (cF B g A J cap).blk b → (aw w B).heap.size ≤ b := fun ww b h hb => Nat.le_trans (bC w B) (cQ h hb)
 refine eI (args := [gP g]) (fn := Try.f9) [cF B g A J cap,sQ A J cap,bd w (fun b => b = g)] B Try.func9 rfl Try.ntmps9 rfl hB (by simp only [List.mem_cons,List.not_mem_nil,or_false,forall_eq_or_imp,forall_eq]; exact ⟨hc,hl,bn w _⟩) (bX hap rfl) ?_
 have hgl : g < w.heap.size := (cF B g A J cap).lt w g hc rfl
 refine kQ <| cv [0,2,3] ⟨[(0,aP g),(2,.p 0 0),(3,.p 1 0)],[⟨27,[.slice none 0 0,.slice none 0 0]⟩,⟨35,[iI 0,iI 0,iI 0,iI 0]⟩],[],[cF B g A J cap,sQ A J cap,bd w (fun b => b = g)]⟩ <| kQ <| d2 1 [0,2,3,6] [(6,aP g)] 14 [gP g] (some 7) 0 rfl rfl hlo (l25Limits_c_K hBw hap) ?_
 rintro ⟨y1,hy1⟩
 refine kEA [0,2,3,4] [(4,.p 2 0)] [⟨35,bA y1⟩] <| kQ <| d2 2 [0,2,3,4,8,9] [(8,aP g),(9,.v (.agg (bA y1).toArray))] 15 [gP g,.agg (bA y1).toArray] (some 10) 0 rfl rfl hlo (xcm_curT (α := {y : List CV × (Option Addr × Nat) × List Tup × (Option Addr × Nat) // (∀ x ∈ y.1,bO x.1) ∧ y.1.length ≤ 3 ∧ y.2.2.1.length ≤ 3}) (F := fun y => .agg #[.slice y.1.2.1.1 y.1.1.length y.1.2.1.2,.slice y.1.2.2.2.1 y.1.2.2.1.length y.1.2.2.2.2]) (v := fun y => .slice y.1.2.1.1 y.1.1.length y.1.2.1.2) (u := fun y => .slice y.1.2.2.2.1 y.1.2.2.1.length y.1.2.2.2.2) (cs := fun y => y.1.1) (rs := fun y => y.1.2.2.1.map a8) fun ww hw hf => l25Table_c g J A cap y1 ww B (Nat.le_trans (by first | exact Nat.le_refl _ | exact Nat.le_of_eq (aW hB).symm) hw) (hf (cF B g A J cap) (by simp)) (hf _ m1) hap (by omega)) ?_
 rintro ⟨⟨t2l,⟨t2a,t2c⟩,t2w,⟨t2d,t2e⟩⟩,hfit_t2l,hlen_t2l,hwl_t2l⟩
 dsimp only at hfit_t2l hlen_t2l hwl_t2l
 refine kEA [0,2,3,4,5] [(5,.p 3 0)] [⟨27,[.slice t2a t2l.length t2c,.slice t2d t2w.length t2e]⟩] <| kS <| kQ <| d2 1 [0,2,3,4,5,11] [(11,aP g)] 16 [gP g,iI 10] (some 12) 3 rfl rfl hlo (av hBw hap) ?_
 rintro ⟨y3,hy3⟩
 obtain ⟨hy30,hy31⟩ := hy3
 refine aU [0,2,3,4,5,12] [] <| aj <| kQ <| aU [0,2,3,4,5,12,13] [(13,aB (y3 == 0))] ?_
 refine kC (y3 == 0) (fun h4 => ?_) (fun h4 => ?_)
 have h4p := cN h4
 refine bw [true,true,true,false] (by kernel_rfl) (fun ρ σ => ?_)
 refine cK [0,2] [17,15,2,3,4,5] 6 [(17,aP g),(15,.p 3 0),(2,.p 0 0),(3,.p 1 0),(4,.p 2 0),(5,.p 3 0)] <| kA [1,3] ⟨?_,?_⟩
 refine e6 1 (.v (.slice t2a t2l.length t2c)) rfl <| kA [3] <| eD 3 17 [gP g] (some 18) 0 rfl rfl hlo (a5 (a5 (a5 (aq rfl a7)))) (xcm_curN fun ww hw hf => l19Bent_c g J A cap ww B (Nat.le_trans (by first | exact Nat.le_refl _ | exact Nat.le_of_eq (aW hB).symm) hw) (hf (cF B g A J cap) (by simp)) (hf _ m4) hap (by omega)) ?_
 rintro ⟨⟨b5m,b5a,b5c⟩,hb5⟩
 dsimp only at hb5
 have hb5n := hb5.1
 have hfc_b5m : bO b5m := RB.fit hb5
 refine kA [4] <| dG 4 rfl (a5 (a5 (a5 (aq rfl a7)))) (aQ (e := 50) (K := 25) (bytes := 208) [.agg (a6 b5m (cS b5a b5m b5c)).toArray] (rs := ([((b5m,.slice b5a b5m.r.held.length b5c) : CV)] : List CV).map ak) (by rfl) rfl) ?_
 intro g7
 refine kA [5] <| dG 5 rfl (a5 (a5 (a5 (aq rfl a7)))) (aG (e := 50) (K := 25) (bytes := 208) (i := 3) (q := (t2l ++ ([((b5m,.slice b5a b5m.r.held.length b5c) : CV)] : List CV)).length) (new := ([((b5m,.slice b5a b5m.r.held.length b5c) : CV)] : List CV).map ak) (rs' := (t2l ++ ([((b5m,.slice b5a b5m.r.held.length b5c) : CV)] : List CV)).map ak) rfl rfl rfl rfl (by kernel_rfl) (by kernel_rfl) (by kernel_rfl) rfl (by simp) (by rw [List.map_append]) (by simp) (fun ww hf => (au (hf (a9 (aw w B).heap.size 50 25 (.slice (some ⟨g7,0,none⟩) 1 1) (([((b5m,.slice b5a b5m.r.held.length b5c) : CV)] : List CV).map ak)) (by simp)))) (by intro r hr; simp only [List.map_cons,List.map_nil,List.mem_singleton] at hr; subst hr; exact ⟨rfl,by simp [ak,a6,Value.oneCell']⟩) (by (try simp only [List.length_map,List.length_append,List.length_cons,List.length_nil,List.length_take,List.length_drop,maxLen]); omega) (by (try simp only [List.length_map,List.length_append,List.length_cons,List.length_nil,List.length_take,List.length_drop,maxLen]); omega)) ?_
 rintro ⟨v9a,v9c⟩
 refine cK [6] [21,20,2,3,4,5] 1 [(21,.p 3 0),(20,.v (.slice v9a ((t2l ++ ([((b5m,.slice b5a b5m.r.held.length b5c) : CV)] : List CV)).length) v9c)),(2,.p 0 0),(3,.p 1 0),(4,.p 2 0),(5,.p 3 0)] <| kA [7] <| dp 7 3 0 [.slice v9a ((t2l ++ ([((b5m,.slice b5a b5m.r.held.length b5c) : CV)] : List CV)).length) v9c] rfl <| kZ <| kS <| bY [false,false,true,true] (by kernel_rfl) (fun ρ σ => ?_)
 refine cK [0,1] [59,58,2,3] 2 [(59,.v (.agg (bA y1).toArray)),(58,.v (.agg #[.slice v9a ((t2l ++ ([((b5m,.slice b5a b5m.r.held.length b5c) : CV)] : List CV)).length) v9c,.slice t2d t2w.length t2e])),(2,.p 0 0),(3,.p 1 0)] <| kA [2] <| dp 2 0 0 [.slice v9a ((t2l ++ ([((b5m,.slice b5a b5m.r.held.length b5c) : CV)] : List CV)).length) v9c,.slice t2d t2w.length t2e] rfl <| kA [3] ?_
 refine dp 3 1 0 (bA y1) rfl <| kZ <| xw_wk ((gl [2,4,0,1,3,5,6,7] [eF (aw w B).heap.size (cS b5a b5m b5c) 2 (b5m.r.held.map pC),fQ (aw w B).heap.size t2l,a9 (aw w B).heap.size 50 25 (.slice v9a ((t2l ++ ([((b5m,.slice b5a b5m.r.held.length b5c) : CV)] : List CV)).length) v9c) ((t2l ++ ([((b5m,.slice b5a b5m.r.held.length b5c) : CV)] : List CV)).map ak),a9 (aw w B).heap.size 50 25 (.slice (some ⟨g7,0,none⟩) 1 1) (([((b5m,.slice b5a b5m.r.held.length b5c) : CV)] : List CV).map ak),cF B g A J cap,a9 (aw w B).heap.size 30 3 (.slice t2d t2w.length t2e) (t2w.map a8),sQ A J cap,bd w (fun b => b = g)] (by kernel_rfl) (by kernel_rfl)).trans (fB (fun _ _ _ _ h => hw_snoc (cs := t2l) (x := ((b5m,.slice b5a b5m.r.held.length b5c) : CV)) h))) ?_
 refine kR ?_
 exact ⟨[.agg #[.slice v9a ((t2l ++ ([((b5m,.slice b5a b5m.r.held.length b5c) : CV)] : List CV)).length) v9c,.slice t2d t2w.length t2e],.agg (bA y1).toArray],by kernel_rfl,fun w' hb hf ha => ⟨⟨((t2l ++ ([((b5m,.slice b5a b5m.r.held.length b5c) : CV)] : List CV)),(v9a,v9c),t2w,(t2d,t2e),y1),(by dsimp only; exact ⟨fit_app hfit_t2l (by first | exact hfz | exact hfc_b5m),(by first | omega | (simp only [List.length_append,List.length_cons,List.length_nil]; omega)),(by first | omega | (simp only [List.length_append,List.length_cons,List.length_nil]; omega))⟩)⟩,rfl,hf (cF B g A J cap) (by simp),bv (hf (a9 (aw w B).heap.size 50 25 (.slice v9a ((t2l ++ ([((b5m,.slice b5a b5m.r.held.length b5c) : CV)] : List CV)).length) v9c) ((t2l ++ ([((b5m,.slice b5a b5m.r.held.length b5c) : CV)] : List CV)).map ak)) (by simp)) (aF ha (i := 1) (j := 3) (k := 6) rfl rfl rfl rfl (by decide) (by decide)),d6 (id (hf (fQ (aw w B).heap.size (t2l ++ ([((b5m,.slice b5a b5m.r.held.length b5c) : CV)] : List CV))) (by simp))) (fun b hb => (aF ha (i := 0) (j := 3) (k := 6) rfl rfl rfl rfl (by decide) (by decide)) b (c6 hb)),bv (hf (a9 (aw w B).heap.size 30 3 (.slice t2d t2w.length t2e) (t2w.map a8)) (by simp)) (aF ha (i := 4) (j := 3) (k := 6) rfl rfl rfl rfl (by decide) (by decide)),Apart.sub3 ha [1,0,4] rfl (by decide) rfl rfl rfl (fun b h => h) (fun b h => c6 h) (fun b h => h),hgl,ar (hf (bd w (fun b => b = g)) (by simp)) hb rfl rfl rfl⟩⟩
 refine eD 3 17 [gP g] (some 18) 0 rfl rfl hlo (a5 (a5 (a5 (aq rfl a7)))) (xcm_curN fun ww hw hf => l19Bent_c g J A cap ww B (Nat.le_trans (by first | exact Nat.le_refl _ | exact Nat.le_of_eq (aW hB).symm) hw) (hf (cF B g A J cap) (by simp)) (hf _ m4) hap (by omega)) ?_
 rintro ⟨⟨b10m,b10a,b10c⟩,hb10⟩
 dsimp only at hb10
 have hb10n := hb10.1
 have hfc_b10m : bO b10m := RB.fit hb10
 refine kA [1,4] ⟨?_,?_⟩
 refine e6 1 (.v (.slice t2a t2l.length t2c)) rfl <| kA [4] <| dG 4 rfl (a5 (a5 (a5 (aq rfl a7)))) (aQ (e := 50) (K := 25) (bytes := 208) [.agg (a6 b10m (cS b10a b10m b10c)).toArray] (rs := ([((b10m,.slice b10a b10m.r.held.length b10c) : CV)] : List CV).map ak) (by rfl) rfl) ?_
 intro g13
 refine kA [5] <| dG 5 rfl (a5 (a5 (a5 (aq rfl a7)))) (aG (e := 50) (K := 25) (bytes := 208) (i := 3) (q := (t2l ++ ([((b10m,.slice b10a b10m.r.held.length b10c) : CV)] : List CV)).length) (new := ([((b10m,.slice b10a b10m.r.held.length b10c) : CV)] : List CV).map ak) (rs' := (t2l ++ ([((b10m,.slice b10a b10m.r.held.length b10c) : CV)] : List CV)).map ak) rfl rfl rfl rfl (by kernel_rfl) (by kernel_rfl) (by kernel_rfl) rfl (by simp) (by rw [List.map_append]) (by simp) (fun ww hf => (au (hf (a9 (aw w B).heap.size 50 25 (.slice (some ⟨g13,0,none⟩) 1 1) (([((b10m,.slice b10a b10m.r.held.length b10c) : CV)] : List CV).map ak)) (by simp)))) (by intro r hr; simp only [List.map_cons,List.map_nil,List.mem_singleton] at hr; subst hr; exact ⟨rfl,by simp [ak,a6,Value.oneCell']⟩) (by (try simp only [List.length_map,List.length_append,List.length_cons,List.length_nil,List.length_take,List.length_drop,maxLen]); omega) (by (try simp only [List.length_map,List.length_append,List.length_cons,List.length_nil,List.length_take,List.length_drop,maxLen]); omega)) ?_
 rintro ⟨v15a,v15c⟩
 refine cK [6] [21,20,2,3,4,5] 1 [(21,.p 3 0),(20,.v (.slice v15a ((t2l ++ ([((b10m,.slice b10a b10m.r.held.length b10c) : CV)] : List CV)).length) v15c)),(2,.p 0 0),(3,.p 1 0),(4,.p 2 0),(5,.p 3 0)] <| kA [7] <| dp 7 3 0 [.slice v15a ((t2l ++ ([((b10m,.slice b10a b10m.r.held.length b10c) : CV)] : List CV)).length) v15c] rfl <| kZ <| kS <| bY [false,false,true,true] (by kernel_rfl) (fun ρ σ => ?_)
 refine cK [0,1] [59,58,2,3] 2 [(59,.v (.agg (bA y1).toArray)),(58,.v (.agg #[.slice v15a ((t2l ++ ([((b10m,.slice b10a b10m.r.held.length b10c) : CV)] : List CV)).length) v15c,.slice t2d t2w.length t2e])),(2,.p 0 0),(3,.p 1 0)] <| kA [2] <| dp 2 0 0 [.slice v15a ((t2l ++ ([((b10m,.slice b10a b10m.r.held.length b10c) : CV)] : List CV)).length) v15c,.slice t2d t2w.length t2e] rfl <| kA [3] ?_
 refine dp 3 1 0 (bA y1) rfl <| kZ <| xw_wk ((gl [2,4,0,1,3,5,6,7] [eF (aw w B).heap.size (cS b10a b10m b10c) 2 (b10m.r.held.map pC),fQ (aw w B).heap.size t2l,a9 (aw w B).heap.size 50 25 (.slice v15a ((t2l ++ ([((b10m,.slice b10a b10m.r.held.length b10c) : CV)] : List CV)).length) v15c) ((t2l ++ ([((b10m,.slice b10a b10m.r.held.length b10c) : CV)] : List CV)).map ak),a9 (aw w B).heap.size 50 25 (.slice (some ⟨g13,0,none⟩) 1 1) (([((b10m,.slice b10a b10m.r.held.length b10c) : CV)] : List CV).map ak),cF B g A J cap,a9 (aw w B).heap.size 30 3 (.slice t2d t2w.length t2e) (t2w.map a8),sQ A J cap,bd w (fun b => b = g)] (by kernel_rfl) (by kernel_rfl)).trans (fB (fun _ _ _ _ h => hw_snoc (cs := t2l) (x := ((b10m,.slice b10a b10m.r.held.length b10c) : CV)) h))) ?_
 refine kR ?_
 exact ⟨[.agg #[.slice v15a ((t2l ++ ([((b10m,.slice b10a b10m.r.held.length b10c) : CV)] : List CV)).length) v15c,.slice t2d t2w.length t2e],.agg (bA y1).toArray],by kernel_rfl,fun w' hb hf ha => ⟨⟨((t2l ++ ([((b10m,.slice b10a b10m.r.held.length b10c) : CV)] : List CV)),(v15a,v15c),t2w,(t2d,t2e),y1),(by dsimp only; exact ⟨fit_app hfit_t2l (by first | exact hfz | exact hfc_b10m),(by first | omega | (simp only [List.length_append,List.length_cons,List.length_nil]; omega)),(by first | omega | (simp only [List.length_append,List.length_cons,List.length_nil]; omega))⟩)⟩,rfl,hf (cF B g A J cap) (by simp),bv (hf (a9 (aw w B).heap.size 50 25 (.slice v15a ((t2l ++ ([((b10m,.slice b10a b10m.r.held.length b10c) : CV)] : List CV)).length) v15c) ((t2l ++ ([((b10m,.slice b10a b10m.r.held.length b10c) : CV)] : List CV)).map ak)) (by simp)) (aF ha (i := 1) (j := 3) (k := 6) rfl rfl rfl rfl (by decide) (by decide)),d6 (id (hf (fQ (aw w B).heap.size (t2l ++ ([((b10m,.slice b10a b10m.r.held.length b10c) : CV)] : List CV))) (by simp))) (fun b hb => (aF ha (i := 0) (j := 3) (k := 6) rfl rfl rfl rfl (by decide) (by decide)) b (c6 hb)),bv (hf (a9 (aw w B).heap.size 30 3 (.slice t2d t2w.length t2e) (t2w.map a8)) (by simp)) (aF ha (i := 4) (j := 3) (k := 6) rfl rfl rfl rfl (by decide) (by decide)),Apart.sub3 ha [1,0,4] rfl (by decide) rfl rfl rfl (fun b h => h) (fun b h => c6 h) (fun b h => h),hgl,ar (hf (bd w (fun b => b = g)) (by simp)) hb rfl rfl rfl⟩⟩
 refine dG 4 rfl (a5 (a5 (a5 (aq rfl a7)))) (aQ (e := 50) (K := 25) (bytes := 208) [.agg (a6 b10m (cS b10a b10m b10c)).toArray] (rs := ([((b10m,.slice b10a b10m.r.held.length b10c) : CV)] : List CV).map ak) (by rfl) rfl) ?_
 intro g16
 refine kA [1] <| e6 1 (.v (.slice t2a t2l.length t2c)) rfl <| kA [5] <| dG 5 rfl (a5 (a5 (a5 (aq rfl a7)))) (aG (e := 50) (K := 25) (bytes := 208) (i := 3) (q := (t2l ++ ([((b10m,.slice b10a b10m.r.held.length b10c) : CV)] : List CV)).length) (new := ([((b10m,.slice b10a b10m.r.held.length b10c) : CV)] : List CV).map ak) (rs' := (t2l ++ ([((b10m,.slice b10a b10m.r.held.length b10c) : CV)] : List CV)).map ak) rfl rfl rfl rfl (by kernel_rfl) (by kernel_rfl) (by kernel_rfl) rfl (by simp) (by rw [List.map_append]) (by simp) (fun ww hf => (au (hf (a9 (aw w B).heap.size 50 25 (.slice (some ⟨g16,0,none⟩) 1 1) (([((b10m,.slice b10a b10m.r.held.length b10c) : CV)] : List CV).map ak)) (by simp)))) (by intro r hr; simp only [List.map_cons,List.map_nil,List.mem_singleton] at hr; subst hr; exact ⟨rfl,by simp [ak,a6,Value.oneCell']⟩) (by (try simp only [List.length_map,List.length_append,List.length_cons,List.length_nil,List.length_take,List.length_drop,maxLen]); omega) (by (try simp only [List.length_map,List.length_append,List.length_cons,List.length_nil,List.length_take,List.length_drop,maxLen]); omega)) ?_
 rintro ⟨v18a,v18c⟩
 refine cK [6] [21,20,2,3,4,5] 1 [(21,.p 3 0),(20,.v (.slice v18a ((t2l ++ ([((b10m,.slice b10a b10m.r.held.length b10c) : CV)] : List CV)).length) v18c)),(2,.p 0 0),(3,.p 1 0),(4,.p 2 0),(5,.p 3 0)] <| kA [7] <| dp 7 3 0 [.slice v18a ((t2l ++ ([((b10m,.slice b10a b10m.r.held.length b10c) : CV)] : List CV)).length) v18c] rfl <| kZ <| kS <| bY [false,false,true,true] (by kernel_rfl) (fun ρ σ => ?_)
 refine cK [0,1] [59,58,2,3] 2 [(59,.v (.agg (bA y1).toArray)),(58,.v (.agg #[.slice v18a ((t2l ++ ([((b10m,.slice b10a b10m.r.held.length b10c) : CV)] : List CV)).length) v18c,.slice t2d t2w.length t2e])),(2,.p 0 0),(3,.p 1 0)] <| kA [2] <| dp 2 0 0 [.slice v18a ((t2l ++ ([((b10m,.slice b10a b10m.r.held.length b10c) : CV)] : List CV)).length) v18c,.slice t2d t2w.length t2e] rfl <| kA [3] ?_
 refine dp 3 1 0 (bA y1) rfl <| kZ <| xw_wk ((gl [2,4,0,1,3,5,6,7] [eF (aw w B).heap.size (cS b10a b10m b10c) 2 (b10m.r.held.map pC),fQ (aw w B).heap.size t2l,a9 (aw w B).heap.size 50 25 (.slice v18a ((t2l ++ ([((b10m,.slice b10a b10m.r.held.length b10c) : CV)] : List CV)).length) v18c) ((t2l ++ ([((b10m,.slice b10a b10m.r.held.length b10c) : CV)] : List CV)).map ak),a9 (aw w B).heap.size 50 25 (.slice (some ⟨g16,0,none⟩) 1 1) (([((b10m,.slice b10a b10m.r.held.length b10c) : CV)] : List CV).map ak),cF B g A J cap,a9 (aw w B).heap.size 30 3 (.slice t2d t2w.length t2e) (t2w.map a8),sQ A J cap,bd w (fun b => b = g)] (by kernel_rfl) (by kernel_rfl)).trans (fB (fun _ _ _ _ h => hw_snoc (cs := t2l) (x := ((b10m,.slice b10a b10m.r.held.length b10c) : CV)) h))) ?_
 refine kR ?_
 exact ⟨[.agg #[.slice v18a ((t2l ++ ([((b10m,.slice b10a b10m.r.held.length b10c) : CV)] : List CV)).length) v18c,.slice t2d t2w.length t2e],.agg (bA y1).toArray],by kernel_rfl,fun w' hb hf ha => ⟨⟨((t2l ++ ([((b10m,.slice b10a b10m.r.held.length b10c) : CV)] : List CV)),(v18a,v18c),t2w,(t2d,t2e),y1),(by dsimp only; exact ⟨fit_app hfit_t2l (by first | exact hfz | exact hfc_b10m),(by first | omega | (simp only [List.length_append,List.length_cons,List.length_nil]; omega)),(by first | omega | (simp only [List.length_append,List.length_cons,List.length_nil]; omega))⟩)⟩,rfl,hf (cF B g A J cap) (by simp),bv (hf (a9 (aw w B).heap.size 50 25 (.slice v18a ((t2l ++ ([((b10m,.slice b10a b10m.r.held.length b10c) : CV)] : List CV)).length) v18c) ((t2l ++ ([((b10m,.slice b10a b10m.r.held.length b10c) : CV)] : List CV)).map ak)) (by simp)) (aF ha (i := 1) (j := 3) (k := 6) rfl rfl rfl rfl (by decide) (by decide)),d6 (id (hf (fQ (aw w B).heap.size (t2l ++ ([((b10m,.slice b10a b10m.r.held.length b10c) : CV)] : List CV))) (by simp))) (fun b hb => (aF ha (i := 0) (j := 3) (k := 6) rfl rfl rfl rfl (by decide) (by decide)) b (c6 hb)),bv (hf (a9 (aw w B).heap.size 30 3 (.slice t2d t2w.length t2e) (t2w.map a8)) (by simp)) (aF ha (i := 4) (j := 3) (k := 6) rfl rfl rfl rfl (by decide) (by decide)),Apart.sub3 ha [1,0,4] rfl (by decide) rfl rfl rfl (fun b h => h) (fun b h => c6 h) (fun b h => h),hgl,ar (hf (bd w (fun b => b = g)) (by simp)) hb rfl rfl rfl⟩⟩
 have h4p := cI h4
 refine kQ <| aU [0,2,3,4,5,12,22] [(22,aB (y3 == 1))] <| kC (y3 == 1) (fun h19 => ?_) (fun h19 => ?_)
 have h19p := cN h19
 refine bw [true,true,true,false] (by kernel_rfl) (fun ρ σ => ?_)
 refine cK [0,2] [26,24,2,3,4,5] 6 [(26,aP g),(24,.p 3 1),(2,.p 0 0),(3,.p 1 0),(4,.p 2 0),(5,.p 3 0)] <| kA [1,3] ⟨?_,?_⟩
 refine e6 1 (.v (.slice t2d t2w.length t2e)) rfl <| kA [3] <| eD 3 18 [gP g] (some 27) 0 rfl rfl hlo (a5 (a5 (a5 (aq rfl a7)))) (fh hBw hap) ?_
 rintro ⟨y20,hy20⟩
 refine kA [4] <| dG 4 rfl (a5 (a5 (a5 (aq rfl a7)))) (aQ (e := 30) (K := 3) (bytes := 24) [.agg (bV y20).toArray] (rs := ([y20] : List Tup).map a8) rfl rfl) ?_
 intro g22
 refine kA [5] <| dG 5 rfl (a5 (a5 (a5 (aq rfl a7)))) (aG (e := 30) (K := 3) (bytes := 24) (i := 4) (q := (t2w ++ ([y20] : List Tup)).length) (new := ([y20] : List Tup).map a8) (rs' := (t2w ++ ([y20] : List Tup)).map a8) rfl rfl rfl rfl (by kernel_rfl) (by kernel_rfl) (by kernel_rfl) rfl (by simp) (by rw [List.map_append]) (by simp) (fun ww hf => (au (hf (a9 (aw w B).heap.size 30 3 (.slice (some ⟨g22,0,none⟩) 1 1) (([y20] : List Tup).map a8)) (by simp)))) (by intro r hr; obtain ⟨x,hx,rfl⟩ := List.mem_map.1 hr; exact ⟨rfl,by simp [a8,Value.oneCell']⟩) (by (try simp only [List.length_map,List.length_append,List.length_cons,List.length_nil,List.length_take,List.length_drop,maxLen]); omega) (by (try simp only [List.length_map,List.length_append,List.length_cons,List.length_nil,List.length_take,List.length_drop,maxLen]); omega)) ?_
 rintro ⟨v24a,v24c⟩
 refine cK [6] [30,29,2,3,4,5] 1 [(30,.p 3 1),(29,.v (.slice v24a ((t2w ++ ([y20] : List Tup)).length) v24c)),(2,.p 0 0),(3,.p 1 0),(4,.p 2 0),(5,.p 3 0)] <| kA [7] <| dp 7 3 1 [.slice v24a ((t2w ++ ([y20] : List Tup)).length) v24c] rfl <| kZ <| kS <| bY [false,false,true,true] (by kernel_rfl) (fun ρ σ => ?_)
 refine cK [0,1] [59,58,2,3] 2 [(59,.v (.agg (bA y1).toArray)),(58,.v (.agg #[.slice t2a t2l.length t2c,.slice v24a ((t2w ++ ([y20] : List Tup)).length) v24c])),(2,.p 0 0),(3,.p 1 0)] <| kA [2] <| dp 2 0 0 [.slice t2a t2l.length t2c,.slice v24a ((t2w ++ ([y20] : List Tup)).length) v24c] rfl <| kA [3] ?_
 refine dp 3 1 0 (bA y1) rfl <| kZ <| kR ?_
 exact ⟨[.agg #[.slice t2a t2l.length t2c,.slice v24a ((t2w ++ ([y20] : List Tup)).length) v24c],.agg (bA y1).toArray],by kernel_rfl,fun w' hb hf ha => ⟨⟨(t2l,(t2a,t2c),(t2w ++ ([y20] : List Tup)),(v24a,v24c),y1),(by dsimp only; exact ⟨hfit_t2l,(by first | omega | (simp only [List.length_append,List.length_cons,List.length_nil]; omega)),(by first | omega | (simp only [List.length_append,List.length_cons,List.length_nil]; omega))⟩)⟩,rfl,hf (cF B g A J cap) (by simp),bv (hf (a9 (aw w B).heap.size 50 25 (.slice t2a t2l.length t2c) (t2l.map ak)) (by simp)) (aF ha (i := 3) (j := 2) (k := 6) rfl rfl rfl rfl (by decide) (by decide)),d6 (id (hf (fQ (aw w B).heap.size t2l) (by simp))) (fun b hb => (aF ha (i := 4) (j := 2) (k := 6) rfl rfl rfl rfl (by decide) (by decide)) b (c6 hb)),bv (hf (a9 (aw w B).heap.size 30 3 (.slice v24a ((t2w ++ ([y20] : List Tup)).length) v24c) ((t2w ++ ([y20] : List Tup)).map a8)) (by simp)) (aF ha (i := 0) (j := 2) (k := 6) rfl rfl rfl rfl (by decide) (by decide)),Apart.sub3 ha [3,4,0] rfl (by decide) rfl rfl rfl (fun b h => h) (fun b h => c6 h) (fun b h => h),hgl,ar (hf (bd w (fun b => b = g)) (by simp)) hb rfl rfl rfl⟩⟩
 refine eD 3 18 [gP g] (some 27) 0 rfl rfl hlo (a5 (a5 (a5 (aq rfl a7)))) (fh hBw hap) ?_
 rintro ⟨y25,hy25⟩
 refine kA [1,4] ⟨?_,?_⟩
 refine e6 1 (.v (.slice t2d t2w.length t2e)) rfl <| kA [4] <| dG 4 rfl (a5 (a5 (a5 (aq rfl a7)))) (aQ (e := 30) (K := 3) (bytes := 24) [.agg (bV y25).toArray] (rs := ([y25] : List Tup).map a8) rfl rfl) ?_
 intro g28
 refine kA [5] <| dG 5 rfl (a5 (a5 (a5 (aq rfl a7)))) (aG (e := 30) (K := 3) (bytes := 24) (i := 4) (q := (t2w ++ ([y25] : List Tup)).length) (new := ([y25] : List Tup).map a8) (rs' := (t2w ++ ([y25] : List Tup)).map a8) rfl rfl rfl rfl (by kernel_rfl) (by kernel_rfl) (by kernel_rfl) rfl (by simp) (by rw [List.map_append]) (by simp) (fun ww hf => (au (hf (a9 (aw w B).heap.size 30 3 (.slice (some ⟨g28,0,none⟩) 1 1) (([y25] : List Tup).map a8)) (by simp)))) (by intro r hr; obtain ⟨x,hx,rfl⟩ := List.mem_map.1 hr; exact ⟨rfl,by simp [a8,Value.oneCell']⟩) (by (try simp only [List.length_map,List.length_append,List.length_cons,List.length_nil,List.length_take,List.length_drop,maxLen]); omega) (by (try simp only [List.length_map,List.length_append,List.length_cons,List.length_nil,List.length_take,List.length_drop,maxLen]); omega)) ?_
 rintro ⟨v30a,v30c⟩
 refine cK [6] [30,29,2,3,4,5] 1 [(30,.p 3 1),(29,.v (.slice v30a ((t2w ++ ([y25] : List Tup)).length) v30c)),(2,.p 0 0),(3,.p 1 0),(4,.p 2 0),(5,.p 3 0)] <| kA [7] <| dp 7 3 1 [.slice v30a ((t2w ++ ([y25] : List Tup)).length) v30c] rfl <| kZ <| kS <| bY [false,false,true,true] (by kernel_rfl) (fun ρ σ => ?_)
 refine cK [0,1] [59,58,2,3] 2 [(59,.v (.agg (bA y1).toArray)),(58,.v (.agg #[.slice t2a t2l.length t2c,.slice v30a ((t2w ++ ([y25] : List Tup)).length) v30c])),(2,.p 0 0),(3,.p 1 0)] <| kA [2] <| dp 2 0 0 [.slice t2a t2l.length t2c,.slice v30a ((t2w ++ ([y25] : List Tup)).length) v30c] rfl <| kA [3] ?_
 refine dp 3 1 0 (bA y1) rfl <| kZ <| kR ?_
 exact ⟨[.agg #[.slice t2a t2l.length t2c,.slice v30a ((t2w ++ ([y25] : List Tup)).length) v30c],.agg (bA y1).toArray],by kernel_rfl,fun w' hb hf ha => ⟨⟨(t2l,(t2a,t2c),(t2w ++ ([y25] : List Tup)),(v30a,v30c),y1),(by dsimp only; exact ⟨hfit_t2l,(by first | omega | (simp only [List.length_append,List.length_cons,List.length_nil]; omega)),(by first | omega | (simp only [List.length_append,List.length_cons,List.length_nil]; omega))⟩)⟩,rfl,hf (cF B g A J cap) (by simp),bv (hf (a9 (aw w B).heap.size 50 25 (.slice t2a t2l.length t2c) (t2l.map ak)) (by simp)) (aF ha (i := 3) (j := 2) (k := 6) rfl rfl rfl rfl (by decide) (by decide)),d6 (id (hf (fQ (aw w B).heap.size t2l) (by simp))) (fun b hb => (aF ha (i := 4) (j := 2) (k := 6) rfl rfl rfl rfl (by decide) (by decide)) b (c6 hb)),bv (hf (a9 (aw w B).heap.size 30 3 (.slice v30a ((t2w ++ ([y25] : List Tup)).length) v30c) ((t2w ++ ([y25] : List Tup)).map a8)) (by simp)) (aF ha (i := 0) (j := 2) (k := 6) rfl rfl rfl rfl (by decide) (by decide)),Apart.sub3 ha [3,4,0] rfl (by decide) rfl rfl rfl (fun b h => h) (fun b h => c6 h) (fun b h => h),hgl,ar (hf (bd w (fun b => b = g)) (by simp)) hb rfl rfl rfl⟩⟩
 refine dG 4 rfl (a5 (a5 (a5 (aq rfl a7)))) (aQ (e := 30) (K := 3) (bytes := 24) [.agg (bV y25).toArray] (rs := ([y25] : List Tup).map a8) rfl rfl) ?_
 intro g31
 refine kA [1] <| e6 1 (.v (.slice t2d t2w.length t2e)) rfl <| kA [5] <| dG 5 rfl (a5 (a5 (a5 (aq rfl a7)))) (aG (e := 30) (K := 3) (bytes := 24) (i := 4) (q := (t2w ++ ([y25] : List Tup)).length) (new := ([y25] : List Tup).map a8) (rs' := (t2w ++ ([y25] : List Tup)).map a8) rfl rfl rfl rfl (by kernel_rfl) (by kernel_rfl) (by kernel_rfl) rfl (by simp) (by rw [List.map_append]) (by simp) (fun ww hf => (au (hf (a9 (aw w B).heap.size 30 3 (.slice (some ⟨g31,0,none⟩) 1 1) (([y25] : List Tup).map a8)) (by simp)))) (by intro r hr; obtain ⟨x,hx,rfl⟩ := List.mem_map.1 hr; exact ⟨rfl,by simp [a8,Value.oneCell']⟩) (by (try simp only [List.length_map,List.length_append,List.length_cons,List.length_nil,List.length_take,List.length_drop,maxLen]); omega) (by (try simp only [List.length_map,List.length_append,List.length_cons,List.length_nil,List.length_take,List.length_drop,maxLen]); omega)) ?_
 rintro ⟨v33a,v33c⟩
 refine cK [6] [30,29,2,3,4,5] 1 [(30,.p 3 1),(29,.v (.slice v33a ((t2w ++ ([y25] : List Tup)).length) v33c)),(2,.p 0 0),(3,.p 1 0),(4,.p 2 0),(5,.p 3 0)] <| kA [7] <| dp 7 3 1 [.slice v33a ((t2w ++ ([y25] : List Tup)).length) v33c] rfl <| kZ <| kS <| bY [false,false,true,true] (by kernel_rfl) (fun ρ σ => ?_)
 refine cK [0,1] [59,58,2,3] 2 [(59,.v (.agg (bA y1).toArray)),(58,.v (.agg #[.slice t2a t2l.length t2c,.slice v33a ((t2w ++ ([y25] : List Tup)).length) v33c])),(2,.p 0 0),(3,.p 1 0)] <| kA [2] <| dp 2 0 0 [.slice t2a t2l.length t2c,.slice v33a ((t2w ++ ([y25] : List Tup)).length) v33c] rfl <| kA [3] ?_
 refine dp 3 1 0 (bA y1) rfl <| kZ <| kR ?_
 exact ⟨[.agg #[.slice t2a t2l.length t2c,.slice v33a ((t2w ++ ([y25] : List Tup)).length) v33c],.agg (bA y1).toArray],by kernel_rfl,fun w' hb hf ha => ⟨⟨(t2l,(t2a,t2c),(t2w ++ ([y25] : List Tup)),(v33a,v33c),y1),(by dsimp only; exact ⟨hfit_t2l,(by first | omega | (simp only [List.length_append,List.length_cons,List.length_nil]; omega)),(by first | omega | (simp only [List.length_append,List.length_cons,List.length_nil]; omega))⟩)⟩,rfl,hf (cF B g A J cap) (by simp),bv (hf (a9 (aw w B).heap.size 50 25 (.slice t2a t2l.length t2c) (t2l.map ak)) (by simp)) (aF ha (i := 3) (j := 2) (k := 6) rfl rfl rfl rfl (by decide) (by decide)),d6 (id (hf (fQ (aw w B).heap.size t2l) (by simp))) (fun b hb => (aF ha (i := 4) (j := 2) (k := 6) rfl rfl rfl rfl (by decide) (by decide)) b (c6 hb)),bv (hf (a9 (aw w B).heap.size 30 3 (.slice v33a ((t2w ++ ([y25] : List Tup)).length) v33c) ((t2w ++ ([y25] : List Tup)).map a8)) (by simp)) (aF ha (i := 0) (j := 2) (k := 6) rfl rfl rfl rfl (by decide) (by decide)),Apart.sub3 ha [3,4,0] rfl (by decide) rfl rfl rfl (fun b h => h) (fun b h => c6 h) (fun b h => h),hgl,ar (hf (bd w (fun b => b = g)) (by simp)) hb rfl rfl rfl⟩⟩
 have h19p := cI h19
 refine kQ <| aU [0,2,3,4,5,12,31] [(31,aB (y3 == 2))] <| kC (y3 == 2) (fun h34 => ?_) (fun h34 => ?_)
 have h34p := cN h34
 refine kG <| kHD 1 [2,3,4,5,33] [(33,aP g)] rfl (aQ (e := 3) (K := 1) (bytes := 8) [iI 0,iI 16,iI 17,iI 1] (rs := ([0,16,17,1] : List Int).map az) rfl rfl) ?_
 intro g35
 refine dj (φ := ¬ (bz (.slice (some ⟨g35,0,none⟩) 4 4) 1 (([0,16,17,1] : List Int).map az)).blk g) (fun _ _ _ _ hr => fun hb => hr.2.apart 0 1 (a9 (aw w B).heap.size 3 1 (.slice (some ⟨g35,0,none⟩) 4 4) (([0,16,17,1] : List Int).map az)) (cF B g A J cap) rfl rfl (by decide) rfl g (bf hb) rfl) (fun hk36 => ?_)
 refine kWS 0 [2,3,4,5,33,34] [(2,.p 0 0),(3,.p 1 0),(4,.p 2 0),(5,.p 3 0),(33,aP g),(34,.v (.slice (some ⟨g35,0,none⟩) 4 4))] 19 [gP g,.slice (some ⟨g35,0,none⟩) 4 4] (some 35) 1 rfl rfl hlo (aL hBw hap (fun ww hw hf => (au (hf _ m0))) hk36 (by simp)) ?_
 rintro ⟨y37,hy37⟩
 refine ba [2,3,4,5] [] 2 ⟨35,bA { y1 with conns := y37 }⟩ <| kS <| bY [false,false,true,true] (by kernel_rfl) (fun ρ σ => ?_)
 refine cK [0,1] [59,58,2,3] 2 [(59,.v (.agg (bA { y1 with conns := y37 }).toArray)),(58,.v (.agg #[.slice t2a t2l.length t2c,.slice t2d t2w.length t2e])),(2,.p 0 0),(3,.p 1 0)] <| kA [2] <| dp 2 0 0 [.slice t2a t2l.length t2c,.slice t2d t2w.length t2e] rfl <| kA [3] ?_
 refine dp 3 1 0 (bA { y1 with conns := y37 }) rfl <| kZ <| kR ?_
 exact ⟨[.agg #[.slice t2a t2l.length t2c,.slice t2d t2w.length t2e],.agg (bA { y1 with conns := y37 }).toArray],by kernel_rfl,fun w' hb hf ha => ⟨⟨(t2l,(t2a,t2c),t2w,(t2d,t2e),{ y1 with conns := y37 }),(by dsimp only; exact ⟨hfit_t2l,(by first | omega | (simp only [List.length_append,List.length_cons,List.length_nil]; omega)),(by first | omega | (simp only [List.length_append,List.length_cons,List.length_nil]; omega))⟩)⟩,rfl,hf (cF B g A J cap) (by simp),bv (hf (a9 (aw w B).heap.size 50 25 (.slice t2a t2l.length t2c) (t2l.map ak)) (by simp)) (aF ha (i := 2) (j := 0) (k := 6) rfl rfl rfl rfl (by decide) (by decide)),d6 (id (hf (fQ (aw w B).heap.size t2l) (by simp))) (fun b hb => (aF ha (i := 3) (j := 0) (k := 6) rfl rfl rfl rfl (by decide) (by decide)) b (c6 hb)),bv (hf (a9 (aw w B).heap.size 30 3 (.slice t2d t2w.length t2e) (t2w.map a8)) (by simp)) (aF ha (i := 4) (j := 0) (k := 6) rfl rfl rfl rfl (by decide) (by decide)),Apart.sub3 ha [2,3,4] rfl (by decide) rfl rfl rfl (fun b h => h) (fun b h => c6 h) (fun b h => h),hgl,ar (hf (bd w (fun b => b = g)) (by simp)) hb rfl rfl rfl⟩⟩
 have h34p := cI h34
 refine kQ <| aU [0,2,3,4,5,12,37] [(37,aB (y3 == 3))] <| kC (y3 == 3) (fun h38 => ?_) (fun h38 => ?_)
 have h38p := cN h38
 refine kG <| kHS 1 [2,3,4,5,39] [(2,.p 0 0),(3,.p 1 0),(4,.p 2 0),(5,.p 3 0),(39,aP g)] rfl (aQ (e := 3) (K := 1) (bytes := 8) [iI (-1),iI 1000,iI 1001] (rs := ([(-1),1000,1001] : List Int).map az) rfl rfl) ?_
 intro g39
 refine dj (φ := ¬ (bz (.slice (some ⟨g39,0,none⟩) 3 3) 1 (([(-1),1000,1001] : List Int).map az)).blk g) (fun _ _ _ _ hr => fun hb => hr.2.apart 0 1 (a9 (aw w B).heap.size 3 1 (.slice (some ⟨g39,0,none⟩) 3 3) (([(-1),1000,1001] : List Int).map az)) (cF B g A J cap) rfl rfl (by decide) rfl g (bf hb) rfl) (fun hk40 => ?_)
 refine d2 0 [2,3,4,5,39,40] [] 19 [gP g,.slice (some ⟨g39,0,none⟩) 3 3] (some 41) 1 rfl rfl hlo (aL hBw hap (fun ww hw hf => (au (hf _ m0))) hk40 (by simp)) ?_
 rintro ⟨y41,hy41⟩
 refine ba [2,3,4,5] [] 2 ⟨35,bA { y1 with chal := y41 }⟩ <| kS <| bY [false,false,true,true] (by kernel_rfl) (fun ρ σ => ?_)
 refine cK [0,1] [59,58,2,3] 2 [(59,.v (.agg (bA { y1 with chal := y41 }).toArray)),(58,.v (.agg #[.slice t2a t2l.length t2c,.slice t2d t2w.length t2e])),(2,.p 0 0),(3,.p 1 0)] <| kA [2] <| dp 2 0 0 [.slice t2a t2l.length t2c,.slice t2d t2w.length t2e] rfl <| kA [3] ?_
 refine dp 3 1 0 (bA { y1 with chal := y41 }) rfl <| kZ <| kR ?_
 exact ⟨[.agg #[.slice t2a t2l.length t2c,.slice t2d t2w.length t2e],.agg (bA { y1 with chal := y41 }).toArray],by kernel_rfl,fun w' hb hf ha => ⟨⟨(t2l,(t2a,t2c),t2w,(t2d,t2e),{ y1 with chal := y41 }),(by dsimp only; exact ⟨hfit_t2l,(by first | omega | (simp only [List.length_append,List.length_cons,List.length_nil]; omega)),(by first | omega | (simp only [List.length_append,List.length_cons,List.length_nil]; omega))⟩)⟩,rfl,hf (cF B g A J cap) (by simp),bv (hf (a9 (aw w B).heap.size 50 25 (.slice t2a t2l.length t2c) (t2l.map ak)) (by simp)) (aF ha (i := 2) (j := 0) (k := 6) rfl rfl rfl rfl (by decide) (by decide)),d6 (id (hf (fQ (aw w B).heap.size t2l) (by simp))) (fun b hb => (aF ha (i := 3) (j := 0) (k := 6) rfl rfl rfl rfl (by decide) (by decide)) b (c6 hb)),bv (hf (a9 (aw w B).heap.size 30 3 (.slice t2d t2w.length t2e) (t2w.map a8)) (by simp)) (aF ha (i := 4) (j := 0) (k := 6) rfl rfl rfl rfl (by decide) (by decide)),Apart.sub3 ha [2,3,4] rfl (by decide) rfl rfl rfl (fun b h => h) (fun b h => c6 h) (fun b h => h),hgl,ar (hf (bd w (fun b => b = g)) (by simp)) hb rfl rfl rfl⟩⟩
 have h38p := cI h38
 refine kQ <| aD [2,3,4,5,43] [(2,.p 0 0),(3,.p 1 0),(4,.p 2 0),(5,.p 3 0),(43,aB (y3 == 4))] <| kC (y3 == 4) (fun h42 => ?_) (fun h42 => ?_)
 have h42p := cN h42
 refine kQ <| aU [2,3,4,5,48] [(48,aB (decide (((t2l.length : Nat) : Int) > 0)))] <| kC (decide (((t2l.length : Nat) : Int) > 0)) (fun h43 => ?_) (fun h43 => ?_)
 have h43p := of_decide_eq_true h43
 have hpos : 0 < t2l.length := by have := of_decide_eq_true h43; omega
 obtain ⟨z,hz⟩ : ∃ z,t2l[0]? = some z := ⟨_,List.getElem?_eq_getElem hpos⟩
 have hfz : bO z.1 := hfit_t2l _ (List.mem_of_getElem? hz)
 refine xw_know (φ := ∃ x a c,z = ((x,.slice a x.r.held.length c) : CV)) (fun _ _ _ _ hr => gi (hwF_sl (hr.2.fact (fQ (aw w B).heap.size t2l) (by simp)).1 z (List.mem_of_getElem? hz))) ?_
 rintro ⟨x,xa,xc,rfl⟩
 refine xw_know (φ := ∃ g,t2a = some ⟨g,0,none⟩) (fun _ _ _ _ hr => row_at (hr.2.fact (a9 (aw w B).heap.size 50 25 (.slice t2a t2l.length t2c) (t2l.map ak)) (by simp)).1 (j := 0) (row := ak (x,.slice xa x.r.held.length xc)) (by simp only [List.getElem?_map,hz]; rfl)) ?_
 rintro ⟨gz,hgz⟩
 refine ef (α := Option Addr × Nat × Nat) (fun y => (fun (v47a : Option Addr) (v47c : Nat) (g45 : Nat) => (⟨[(2,.p 0 0),(3,.p 1 0),(4,.p 2 0),(5,.p 3 0)],[⟨27,[.slice none 0 0,.slice none 0 0]⟩,⟨35,[iI 0,iI 0,iI 0,iI 0]⟩,⟨35,bA y1⟩,⟨27,[.slice v47a ((t2l ++ ([((x,.slice xa x.r.held.length xc) : CV)] : List CV)).length) v47c,.slice t2d t2w.length t2e]⟩],[],[a9 (aw w B).heap.size 50 25 (.slice v47a ((t2l ++ ([((x,.slice xa x.r.held.length xc) : CV)] : List CV)).length) v47c) ((t2l ++ ([((x,.slice xa x.r.held.length xc) : CV)] : List CV)).map ak),a9 (aw w B).heap.size 50 25 (.slice (some ⟨g45,0,none⟩) 1 1) (([((x,.slice xa x.r.held.length xc) : CV)] : List CV).map ak),cF B g A J cap,fQ (aw w B).heap.size t2l,a9 (aw w B).heap.size 30 3 (.slice t2d t2w.length t2e) (t2w.map a8),sQ A J cap,bd w (fun b => b = g)]⟩ : St)) y.1 y.2.1 y.2.2) ?_ ?_
 refine bw [true,true,true,false] (by kernel_rfl) (fun ρ σ => ?_)
 refine kTF [0,2] [51,49,2,3,4,5] 8 ⟨[(51,.p 3 0),(49,.p 3 0),(2,.p 0 0),(3,.p 1 0),(4,.p 2 0),(5,.p 3 0)],[⟨27,[.slice none 0 0,.slice none 0 0]⟩,⟨35,[iI 0,iI 0,iI 0,iI 0]⟩,⟨35,bA y1⟩,⟨27,[.slice t2a t2l.length t2c,.slice t2d t2w.length t2e]⟩],[],[cF B g A J cap,a9 (aw w B).heap.size 50 25 (.slice t2a t2l.length t2c) (t2l.map ak),fQ (aw w B).heap.size t2l,a9 (aw w B).heap.size 30 3 (.slice t2d t2w.length t2e) (t2w.map a8),sQ A J cap,bd w (fun b => b = g)]⟩ <| kA [1,3] ⟨?_,?_⟩
 refine e6 1 (.v (.slice t2a t2l.length t2c)) rfl <| kA [3] <| e6 3 (.v (.slice t2a t2l.length t2c)) rfl <| kX 4 (.pointer (some ⟨gz,0 * 25,none⟩)) rfl (fun _ _ ww hA => e9 (kd := .i64) (T := 24) (e := 50) (K := 25) (g := gz) (N := t2l.length) (cap := t2c) 0 hgz hA rfl rfl (by kernel_rfl) (by kernel_rfl) (by kernel_rfl) hpos ww) ?_
 refine kA [5] <| kSR 5 (.agg (a6 x (cS xa x xc)).toArray) rfl (fun _ _ ww hr => dN (po := 0) (j := 0) (row := [iI x.t.ip,iI x.t.port,iI x.t.my,iI x.state,iI x.s.una,.string x.s.data,iI x.s.sent,.bool x.s.fin,.bool x.s.finSent,.bool x.s.done,iI x.r.next,.string x.r.data,.slice xa x.r.held.length xc,iI x.r.fin,.bool x.r.done,iI x.window,iI x.most,iI x.o.mss,iI x.o.scale,.bool x.o.sack,.bool x.o.stamp,iI x.o.val,iI x.o.echo,iI x.timer,iI x.tries]) (a9 (aw w B).heap.size 50 25 (.slice t2a t2l.length t2c) (t2l.map ak)) hr rfl (by kernel_rfl) (by simp) (by simp only [List.getElem?_map,hz]; rfl) (by kernel_rfl) hgz rfl rfl) ?_
 refine kA [6] <| dG 6 rfl (a5 (a5 (a5 (aq rfl a7)))) (aQ (e := 50) (K := 25) (bytes := 208) [.agg (a6 x (cS xa x xc)).toArray] (rs := ([((x,.slice xa x.r.held.length xc) : CV)] : List CV).map ak) (by rfl) rfl) ?_
 intro g45
 refine kA [7] <| dG 7 rfl (a5 (a5 (a5 (aq rfl a7)))) (aG (e := 50) (K := 25) (bytes := 208) (i := 2) (q := (t2l ++ ([((x,.slice xa x.r.held.length xc) : CV)] : List CV)).length) (new := ([((x,.slice xa x.r.held.length xc) : CV)] : List CV).map ak) (rs' := (t2l ++ ([((x,.slice xa x.r.held.length xc) : CV)] : List CV)).map ak) rfl rfl rfl rfl (by kernel_rfl) (by kernel_rfl) (by kernel_rfl) rfl (by simp) (by rw [List.map_append]) (by simp) (fun ww hf => (au (hf (a9 (aw w B).heap.size 50 25 (.slice (some ⟨g45,0,none⟩) 1 1) (([((x,.slice xa x.r.held.length xc) : CV)] : List CV).map ak)) (by simp)))) (by intro r hr; simp only [List.map_cons,List.map_nil,List.mem_singleton] at hr; subst hr; exact ⟨rfl,by simp [ak,a6,Value.oneCell']⟩) (by (try simp only [List.length_map,List.length_append,List.length_cons,List.length_nil,List.length_take,List.length_drop,maxLen]); omega) (by (try simp only [List.length_map,List.length_append,List.length_cons,List.length_nil,List.length_take,List.length_drop,maxLen]); omega)) ?_
 rintro ⟨v47a,v47c⟩
 refine cK [8] [57,56,2,3,4,5] 1 [(57,.p 3 0),(56,.v (.slice v47a ((t2l ++ ([((x,.slice xa x.r.held.length xc) : CV)] : List CV)).length) v47c)),(2,.p 0 0),(3,.p 1 0),(4,.p 2 0),(5,.p 3 0)] <| kA [9] <| dp 9 3 0 [.slice v47a ((t2l ++ ([((x,.slice xa x.r.held.length xc) : CV)] : List CV)).length) v47c] rfl <| kZ ?_
 exact ⟨(v47a,v47c,g45),kF 4 0 [2,3,4,5]⟩
 refine e6 3 (.v (.slice t2a t2l.length t2c)) rfl <| kX 4 (.pointer (some ⟨gz,0 * 25,none⟩)) rfl (fun _ _ ww hA => e9 (kd := .i64) (T := 24) (e := 50) (K := 25) (g := gz) (N := t2l.length) (cap := t2c) 0 hgz hA rfl rfl (by kernel_rfl) (by kernel_rfl) (by kernel_rfl) hpos ww) ?_
 refine kA [1,5] ⟨?_,?_⟩
 refine e6 1 (.v (.slice t2a t2l.length t2c)) rfl <| kA [5] <| kSR 5 (.agg (a6 x (cS xa x xc)).toArray) rfl (fun _ _ ww hr => dN (po := 0) (j := 0) (row := [iI x.t.ip,iI x.t.port,iI x.t.my,iI x.state,iI x.s.una,.string x.s.data,iI x.s.sent,.bool x.s.fin,.bool x.s.finSent,.bool x.s.done,iI x.r.next,.string x.r.data,.slice xa x.r.held.length xc,iI x.r.fin,.bool x.r.done,iI x.window,iI x.most,iI x.o.mss,iI x.o.scale,.bool x.o.sack,.bool x.o.stamp,iI x.o.val,iI x.o.echo,iI x.timer,iI x.tries]) (a9 (aw w B).heap.size 50 25 (.slice t2a t2l.length t2c) (t2l.map ak)) hr rfl (by kernel_rfl) (by simp) (by simp only [List.getElem?_map,hz]; rfl) (by kernel_rfl) hgz rfl rfl) ?_
 refine kA [6] <| dG 6 rfl (a5 (a5 (a5 (aq rfl a7)))) (aQ (e := 50) (K := 25) (bytes := 208) [.agg (a6 x (cS xa x xc)).toArray] (rs := ([((x,.slice xa x.r.held.length xc) : CV)] : List CV).map ak) (by rfl) rfl) ?_
 intro g49
 refine kA [7] <| dG 7 rfl (a5 (a5 (a5 (aq rfl a7)))) (aG (e := 50) (K := 25) (bytes := 208) (i := 2) (q := (t2l ++ ([((x,.slice xa x.r.held.length xc) : CV)] : List CV)).length) (new := ([((x,.slice xa x.r.held.length xc) : CV)] : List CV).map ak) (rs' := (t2l ++ ([((x,.slice xa x.r.held.length xc) : CV)] : List CV)).map ak) rfl rfl rfl rfl (by kernel_rfl) (by kernel_rfl) (by kernel_rfl) rfl (by simp) (by rw [List.map_append]) (by simp) (fun ww hf => (au (hf (a9 (aw w B).heap.size 50 25 (.slice (some ⟨g49,0,none⟩) 1 1) (([((x,.slice xa x.r.held.length xc) : CV)] : List CV).map ak)) (by simp)))) (by intro r hr; simp only [List.map_cons,List.map_nil,List.mem_singleton] at hr; subst hr; exact ⟨rfl,by simp [ak,a6,Value.oneCell']⟩) (by (try simp only [List.length_map,List.length_append,List.length_cons,List.length_nil,List.length_take,List.length_drop,maxLen]); omega) (by (try simp only [List.length_map,List.length_append,List.length_cons,List.length_nil,List.length_take,List.length_drop,maxLen]); omega)) ?_
 rintro ⟨v51a,v51c⟩
 refine cK [8] [57,56,2,3,4,5] 1 [(57,.p 3 0),(56,.v (.slice v51a ((t2l ++ ([((x,.slice xa x.r.held.length xc) : CV)] : List CV)).length) v51c)),(2,.p 0 0),(3,.p 1 0),(4,.p 2 0),(5,.p 3 0)] <| kA [9] <| dp 9 3 0 [.slice v51a ((t2l ++ ([((x,.slice xa x.r.held.length xc) : CV)] : List CV)).length) v51c] rfl <| kZ ?_
 exact ⟨(v51a,v51c,g49),kF 4 0 [2,3,4,5]⟩
 refine kSR 5 (.agg (a6 x (cS xa x xc)).toArray) rfl (fun _ _ ww hr => dN (po := 0) (j := 0) (row := [iI x.t.ip,iI x.t.port,iI x.t.my,iI x.state,iI x.s.una,.string x.s.data,iI x.s.sent,.bool x.s.fin,.bool x.s.finSent,.bool x.s.done,iI x.r.next,.string x.r.data,.slice xa x.r.held.length xc,iI x.r.fin,.bool x.r.done,iI x.window,iI x.most,iI x.o.mss,iI x.o.scale,.bool x.o.sack,.bool x.o.stamp,iI x.o.val,iI x.o.echo,iI x.timer,iI x.tries]) (a9 (aw w B).heap.size 50 25 (.slice t2a t2l.length t2c) (t2l.map ak)) hr rfl (by kernel_rfl) (by simp) (by simp only [List.getElem?_map,hz]; rfl) (by kernel_rfl) hgz rfl rfl) ?_
 refine kA [1,6] ⟨?_,?_⟩
 refine e6 1 (.v (.slice t2a t2l.length t2c)) rfl <| kA [6] <| dG 6 rfl (a5 (a5 (a5 (aq rfl a7)))) (aQ (e := 50) (K := 25) (bytes := 208) [.agg (a6 x (cS xa x xc)).toArray] (rs := ([((x,.slice xa x.r.held.length xc) : CV)] : List CV).map ak) (by rfl) rfl) ?_
 intro g54
 refine kA [7] <| dG 7 rfl (a5 (a5 (a5 (aq rfl a7)))) (aG (e := 50) (K := 25) (bytes := 208) (i := 2) (q := (t2l ++ ([((x,.slice xa x.r.held.length xc) : CV)] : List CV)).length) (new := ([((x,.slice xa x.r.held.length xc) : CV)] : List CV).map ak) (rs' := (t2l ++ ([((x,.slice xa x.r.held.length xc) : CV)] : List CV)).map ak) rfl rfl rfl rfl (by kernel_rfl) (by kernel_rfl) (by kernel_rfl) rfl (by simp) (by rw [List.map_append]) (by simp) (fun ww hf => (au (hf (a9 (aw w B).heap.size 50 25 (.slice (some ⟨g54,0,none⟩) 1 1) (([((x,.slice xa x.r.held.length xc) : CV)] : List CV).map ak)) (by simp)))) (by intro r hr; simp only [List.map_cons,List.map_nil,List.mem_singleton] at hr; subst hr; exact ⟨rfl,by simp [ak,a6,Value.oneCell']⟩) (by (try simp only [List.length_map,List.length_append,List.length_cons,List.length_nil,List.length_take,List.length_drop,maxLen]); omega) (by (try simp only [List.length_map,List.length_append,List.length_cons,List.length_nil,List.length_take,List.length_drop,maxLen]); omega)) ?_
 rintro ⟨v56a,v56c⟩
 refine cK [8] [57,56,2,3,4,5] 1 [(57,.p 3 0),(56,.v (.slice v56a ((t2l ++ ([((x,.slice xa x.r.held.length xc) : CV)] : List CV)).length) v56c)),(2,.p 0 0),(3,.p 1 0),(4,.p 2 0),(5,.p 3 0)] <| kA [9] <| dp 9 3 0 [.slice v56a ((t2l ++ ([((x,.slice xa x.r.held.length xc) : CV)] : List CV)).length) v56c] rfl <| kZ ?_
 exact ⟨(v56a,v56c,g54),kF 4 0 [2,3,4,5]⟩
 refine dG 6 rfl (a5 (a5 (a5 (aq rfl a7)))) (aQ (e := 50) (K := 25) (bytes := 208) [.agg (a6 x (cS xa x xc)).toArray] (rs := ([((x,.slice xa x.r.held.length xc) : CV)] : List CV).map ak) (by rfl) rfl) ?_
 intro g57
 refine kA [1] <| e6 1 (.v (.slice t2a t2l.length t2c)) rfl <| kA [7] <| dG 7 rfl (a5 (a5 (a5 (aq rfl a7)))) (aG (e := 50) (K := 25) (bytes := 208) (i := 2) (q := (t2l ++ ([((x,.slice xa x.r.held.length xc) : CV)] : List CV)).length) (new := ([((x,.slice xa x.r.held.length xc) : CV)] : List CV).map ak) (rs' := (t2l ++ ([((x,.slice xa x.r.held.length xc) : CV)] : List CV)).map ak) rfl rfl rfl rfl (by kernel_rfl) (by kernel_rfl) (by kernel_rfl) rfl (by simp) (by rw [List.map_append]) (by simp) (fun ww hf => (au (hf (a9 (aw w B).heap.size 50 25 (.slice (some ⟨g57,0,none⟩) 1 1) (([((x,.slice xa x.r.held.length xc) : CV)] : List CV).map ak)) (by simp)))) (by intro r hr; simp only [List.map_cons,List.map_nil,List.mem_singleton] at hr; subst hr; exact ⟨rfl,by simp [ak,a6,Value.oneCell']⟩) (by (try simp only [List.length_map,List.length_append,List.length_cons,List.length_nil,List.length_take,List.length_drop,maxLen]); omega) (by (try simp only [List.length_map,List.length_append,List.length_cons,List.length_nil,List.length_take,List.length_drop,maxLen]); omega)) ?_
 rintro ⟨v59a,v59c⟩
 refine cK [8] [57,56,2,3,4,5] 1 [(57,.p 3 0),(56,.v (.slice v59a ((t2l ++ ([((x,.slice xa x.r.held.length xc) : CV)] : List CV)).length) v59c)),(2,.p 0 0),(3,.p 1 0),(4,.p 2 0),(5,.p 3 0)] <| kA [9] <| dp 9 3 0 [.slice v59a ((t2l ++ ([((x,.slice xa x.r.held.length xc) : CV)] : List CV)).length) v59c] rfl <| kZ ?_
 exact ⟨(v59a,v59c,g57),kF 4 0 [2,3,4,5]⟩
 rintro ⟨v47a,v47c,g45⟩
 refine kS <| bY [false,false,true,true] (by kernel_rfl) (fun ρ σ => ?_)
 refine kTF [0,1] [59,58,2,3] 2 ⟨[(59,.v (.agg (bA y1).toArray)),(58,.v (.agg #[.slice v47a ((t2l ++ ([((x,.slice xa x.r.held.length xc) : CV)] : List CV)).length) v47c,.slice t2d t2w.length t2e])),(2,.p 0 0),(3,.p 1 0)],[⟨27,[.slice none 0 0,.slice none 0 0]⟩,⟨35,[iI 0,iI 0,iI 0,iI 0]⟩,⟨35,bA y1⟩,⟨27,[.slice v47a ((t2l ++ ([((x,.slice xa x.r.held.length xc) : CV)] : List CV)).length) v47c,.slice t2d t2w.length t2e]⟩],[],[a9 (aw w B).heap.size 50 25 (.slice v47a ((t2l ++ ([((x,.slice xa x.r.held.length xc) : CV)] : List CV)).length) v47c) ((t2l ++ ([((x,.slice xa x.r.held.length xc) : CV)] : List CV)).map ak),a9 (aw w B).heap.size 50 25 (.slice (some ⟨g45,0,none⟩) 1 1) (([((x,.slice xa x.r.held.length xc) : CV)] : List CV).map ak),cF B g A J cap,fQ (aw w B).heap.size t2l,a9 (aw w B).heap.size 30 3 (.slice t2d t2w.length t2e) (t2w.map a8),sQ A J cap,bd w (fun b => b = g)]⟩ <| kA [2] <| dp 2 0 0 [.slice v47a ((t2l ++ ([((x,.slice xa x.r.held.length xc) : CV)] : List CV)).length) v47c,.slice t2d t2w.length t2e] rfl <| kA [3] ?_
 refine dp 3 1 0 (bA y1) rfl <| kZ <| xw_wk ((gl [3,0,1,2,4,5,6] [fQ (aw w B).heap.size t2l,a9 (aw w B).heap.size 50 25 (.slice v47a ((t2l ++ ([((x,.slice xa x.r.held.length xc) : CV)] : List CV)).length) v47c) ((t2l ++ ([((x,.slice xa x.r.held.length xc) : CV)] : List CV)).map ak),a9 (aw w B).heap.size 50 25 (.slice (some ⟨g45,0,none⟩) 1 1) (([((x,.slice xa x.r.held.length xc) : CV)] : List CV).map ak),cF B g A J cap,a9 (aw w B).heap.size 30 3 (.slice t2d t2w.length t2e) (t2w.map a8),sQ A J cap,bd w (fun b => b = g)] (by kernel_rfl) (by kernel_rfl)).trans (fB (fun _ _ _ _ h => hw_dup (cs := t2l) (x := ((x,.slice xa x.r.held.length xc) : CV)) (List.mem_of_getElem? hz) h))) ?_
 refine kR ?_
 exact ⟨[.agg #[.slice v47a ((t2l ++ ([((x,.slice xa x.r.held.length xc) : CV)] : List CV)).length) v47c,.slice t2d t2w.length t2e],.agg (bA y1).toArray],by kernel_rfl,fun w' hb hf ha => ⟨⟨((t2l ++ ([((x,.slice xa x.r.held.length xc) : CV)] : List CV)),(v47a,v47c),t2w,(t2d,t2e),y1),(by dsimp only; exact ⟨fit_app hfit_t2l (by first | exact hfz | exact hfc_b10m),(by first | omega | (simp only [List.length_append,List.length_cons,List.length_nil]; omega)),(by first | omega | (simp only [List.length_append,List.length_cons,List.length_nil]; omega))⟩)⟩,rfl,hf (cF B g A J cap) (by simp),bv (hf (a9 (aw w B).heap.size 50 25 (.slice v47a ((t2l ++ ([((x,.slice xa x.r.held.length xc) : CV)] : List CV)).length) v47c) ((t2l ++ ([((x,.slice xa x.r.held.length xc) : CV)] : List CV)).map ak)) (by simp)) (aF ha (i := 1) (j := 3) (k := 6) rfl rfl rfl rfl (by decide) (by decide)),d6 (id (hf (fQ (aw w B).heap.size (t2l ++ ([((x,.slice xa x.r.held.length xc) : CV)] : List CV))) (by simp))) (fun b hb => (aF ha (i := 0) (j := 3) (k := 6) rfl rfl rfl rfl (by decide) (by decide)) b (c6 hb)),bv (hf (a9 (aw w B).heap.size 30 3 (.slice t2d t2w.length t2e) (t2w.map a8)) (by simp)) (aF ha (i := 4) (j := 3) (k := 6) rfl rfl rfl rfl (by decide) (by decide)),Apart.sub3 ha [1,0,4] rfl (by decide) rfl rfl rfl (fun b h => h) (fun b h => c6 h) (fun b h => h),hgl,ar (hf (bd w (fun b => b = g)) (by simp)) hb rfl rfl rfl⟩⟩
 have h43p := of_decide_eq_false h43
 refine kK <| kS <| bY [false,false,true,true] (by kernel_rfl) (fun ρ σ => ?_)
 refine cK [0,1] [59,58,2,3] 2 [(59,.v (.agg (bA y1).toArray)),(58,.v (.agg #[.slice t2a t2l.length t2c,.slice t2d t2w.length t2e])),(2,.p 0 0),(3,.p 1 0)] <| kA [2] <| dp 2 0 0 [.slice t2a t2l.length t2c,.slice t2d t2w.length t2e] rfl <| kA [3] ?_
 refine dp 3 1 0 (bA y1) rfl <| kZ <| kR ?_
 exact ⟨[.agg #[.slice t2a t2l.length t2c,.slice t2d t2w.length t2e],.agg (bA y1).toArray],by kernel_rfl,fun w' hb hf ha => ⟨⟨(t2l,(t2a,t2c),t2w,(t2d,t2e),y1),(by dsimp only; exact ⟨hfit_t2l,(by first | omega | (simp only [List.length_append,List.length_cons,List.length_nil]; omega)),(by first | omega | (simp only [List.length_append,List.length_cons,List.length_nil]; omega))⟩)⟩,rfl,hf (cF B g A J cap) (by simp),bv (hf (a9 (aw w B).heap.size 50 25 (.slice t2a t2l.length t2c) (t2l.map ak)) (by simp)) (aF ha (i := 1) (j := 0) (k := 5) rfl rfl rfl rfl (by decide) (by decide)),d6 (id (hf (fQ (aw w B).heap.size t2l) (by simp))) (fun b hb => (aF ha (i := 2) (j := 0) (k := 5) rfl rfl rfl rfl (by decide) (by decide)) b (c6 hb)),bv (hf (a9 (aw w B).heap.size 30 3 (.slice t2d t2w.length t2e) (t2w.map a8)) (by simp)) (aF ha (i := 3) (j := 0) (k := 5) rfl rfl rfl rfl (by decide) (by decide)),Apart.sub3 ha [1,2,3] rfl (by decide) rfl rfl rfl (fun b h => h) (fun b h => c6 h) (fun b h => h),hgl,ar (hf (bd w (fun b => b = g)) (by simp)) hb rfl rfl rfl⟩⟩
 have h42p := cI h42
 refine kK <| kS <| bY [false,false,true,true] (by kernel_rfl) (fun ρ σ => ?_)
 refine cK [0,1] [59,58,2,3] 2 [(59,.v (.agg (bA y1).toArray)),(58,.v (.agg #[.slice t2a t2l.length t2c,.slice t2d t2w.length t2e])),(2,.p 0 0),(3,.p 1 0)] <| kA [2] <| dp 2 0 0 [.slice t2a t2l.length t2c,.slice t2d t2w.length t2e] rfl <| kA [3] ?_
 refine dp 3 1 0 (bA y1) rfl <| kZ <| kR ?_
 exact ⟨[.agg #[.slice t2a t2l.length t2c,.slice t2d t2w.length t2e],.agg (bA y1).toArray],by kernel_rfl,fun w' hb hf ha => ⟨⟨(t2l,(t2a,t2c),t2w,(t2d,t2e),y1),(by dsimp only; exact ⟨hfit_t2l,(by first | omega | (simp only [List.length_append,List.length_cons,List.length_nil]; omega)),(by first | omega | (simp only [List.length_append,List.length_cons,List.length_nil]; omega))⟩)⟩,rfl,hf (cF B g A J cap) (by simp),bv (hf (a9 (aw w B).heap.size 50 25 (.slice t2a t2l.length t2c) (t2l.map ak)) (by simp)) (aF ha (i := 1) (j := 0) (k := 5) rfl rfl rfl rfl (by decide) (by decide)),d6 (id (hf (fQ (aw w B).heap.size t2l) (by simp))) (fun b hb => (aF ha (i := 2) (j := 0) (k := 5) rfl rfl rfl rfl (by decide) (by decide)) b (c6 hb)),bv (hf (a9 (aw w B).heap.size 30 3 (.slice t2d t2w.length t2e) (t2w.map a8)) (by simp)) (aF ha (i := 3) (j := 0) (k := 5) rfl rfl rfl rfl (by decide) (by decide)),Apart.sub3 ha [1,2,3] rfl (by decide) rfl rfl rfl (fun b h => h) (fun b h => c6 h) (fun b h => h),hgl,ar (hf (bd w (fun b => b = g)) (by simp)) hb rfl rfl rfl⟩⟩
theorem drawTakeWaiting_c (J : List Int) (A : Option Addr) (cap : Nat) (w : World) (hl : Sl w (sJ A J cap) 1 (J.map bR)) (hn : J.length ≤ 1048576) (B : Nat) (hB : B ≤ w.heap.size) : Calls Try.prog 5 #[.slice A J.length cap] w fun e w' => XRs w w' e (α := {y : List CV × (Option Addr × Nat) × List Tup × (Option Addr × Nat) // (∀ x ∈ y.1, bO x.1) ∧ y.1.length ≤ 4 ∧ y.2.2.1.length ≤ 4}) (fun y => .agg #[.slice y.1.2.1.1 y.1.1.length y.1.2.1.2, .slice y.1.2.2.2.1 y.1.2.2.1.length y.1.2.2.2.2]) (fun y => [a9 B 50 25 (.slice y.1.2.1.1 y.1.1.length y.1.2.1.2) (y.1.1.map ak), fQ B y.1.1, a9 B 30 3 (.slice y.1.2.2.2.1 y.1.2.2.1.length y.1.2.2.2.2) (y.1.2.2.1.map a8)]) := by
 have hq_code := Sl.capLe hl
 refine bJ (args := [.slice A J.length cap]) (fn := Try.f5) [sQ A J cap] Try.func5 rfl Try.ntmps5 rfl (by simp only [List.mem_cons,List.not_mem_nil,or_false,forall_eq]; exact ⟨rfl,hl⟩) ?_
 refine kQ <| cv [0,2] ⟨[(0,.v (sJ A J cap)),(2,.p 0 0)],[⟨27,[.slice none 0 0,.slice none 0 0]⟩],[],[sQ A J cap]⟩ <| kQ <| dZ 1 [2,6] [(6,.v (sJ A J cap))] 10 [.slice A J.length cap] (some 7) rfl (xc_new fun ww hw hf => l1New_c J A cap ww (hf _ m0) (by omega)) ?_
 rintro ⟨g1,hapg1⟩
 refine d2 0 [2,7] [] 9 [gP g1] (some 8) 0 rfl rfl (fun ww b h hb => cQ h hb) (xcm_curT (α := {y : List CV × (Option Addr × Nat) × List Tup × (Option Addr × Nat) × Lim // (∀ x ∈ y.1,bO x.1) ∧ y.1.length ≤ 4 ∧ y.2.2.1.length ≤ 4}) (F := fun y => .tuple #[.agg #[.slice y.1.2.1.1 y.1.1.length y.1.2.1.2,.slice y.1.2.2.2.1.1 y.1.2.2.1.length y.1.2.2.2.1.2],.agg (bA y.1.2.2.2.2).toArray]) (v := fun y => .slice y.1.2.1.1 y.1.1.length y.1.2.1.2) (u := fun y => .slice y.1.2.2.2.1.1 y.1.2.2.1.length y.1.2.2.2.1.2) (cs := fun y => y.1.1) (rs := fun y => y.1.2.2.1.map a8) fun ww hw hf => l25Bent_c g1 J A cap  ww w.heap.size hw (hf (eU w.heap.size g1 59 (sJ A J cap) J.length) (by simp)) (hf _ m1) hapg1 (by omega)) ?_
 rintro ⟨⟨t2l,⟨t2a,t2c⟩,t2w,⟨t2d,t2e⟩,t2m⟩,hfit_t2l,hlen_t2l,hwl_t2l⟩
 dsimp only at hfit_t2l hlen_t2l hwl_t2l
 refine kEA [2,3] [(3,.p 1 0)] [⟨27,[.slice t2a t2l.length t2c,.slice t2d t2w.length t2e]⟩,⟨35,bA t2m⟩] <| kQ <| ba [2] [(2,.p 0 0)] 0 ⟨27,[.slice t2a t2l.length t2c,.slice t2d t2w.length t2e]⟩ <| kR ?_
 exact ⟨[.agg #[.slice t2a t2l.length t2c,.slice t2d t2w.length t2e]],by kernel_rfl,fun w' hb hf ha => by refine xo3 ⟨(t2l,(t2a,t2c),t2w,(t2d,t2e)),(by dsimp only; exact ⟨hfit_t2l,by omega,by omega⟩)⟩ rfl rfl (pW (hf (a9 w.heap.size 50 25 (.slice t2a t2l.length t2c) (t2l.map ak)) (by simp)) hB) (pHw (hf (fQ w.heap.size t2l) (by simp)) hB) (pW (hf (a9 w.heap.size 30 3 (.slice t2d t2w.length t2e) (t2w.map a8)) (by simp)) hB) ?_ hb; exact Apart.sub3 ha [0,1,2] rfl (by decide) rfl rfl rfl (fun b h => h) (fun b h => c6 h) (fun b h => h)⟩

theorem nemp_t {α : Type} {l : List α} (h : (!l.isEmpty) = true) : l.isEmpty = false := by simpa using h
theorem nemp_f {α : Type} {l : List α} (h : (!l.isEmpty) = false) : l.isEmpty = true := by simpa using h
end Go.Proofs.Ytccijpdjfelbmaa
